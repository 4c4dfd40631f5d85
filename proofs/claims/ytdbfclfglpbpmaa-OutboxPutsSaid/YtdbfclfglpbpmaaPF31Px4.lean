/- By a program of this session (wip/tool/pp.py): plain Lean functions of the Go functions that this family of laws uses, the walks that the Go code comes to their answers, and the row of the law. No condition beside those that the row itself gives. -/
import Derived.Test.YtdbfclfglpbpmaaPF31Px0
import Derived.Test.YtdbfclfglpbpmaaPF31Px2
import Derived.Test.YtdbfclfglpbpmaaPF31Px3
namespace Go.Proofs.Ytdbfclfglpbpmaa.PF31P
open Go.RowKit Go.Proofs.YtdbfclfglpbpmaaW.Hand Go.Proofs.YtdbfclfglpbpmaaW.PrintWords Go.Proofs.YtdbfclfglpbpmaaW.PrintLast Go.Proofs.YtdbfclfglpbpmaaW.PrintMore
attribute [local go_sem] max2_int min2_int max_two min_two max_three min_three max_four min_four   -- for this text's walks alone
set_option linter.unusedVariables false
set_option linter.unusedSimpArgs false

/-! ### batonlaw31_OutboxPuts: function 6 -/
def batonlaw31_OutboxPuts.j0 : Nat -> List Int -> Bool -> Int -> List Int -> Option (Bool)
 | 0, _, _, _, _ => none
 | k + 1, x1, x20, x157000, x157001 => if x20 = true then (some true) else ((batonlaw31_right.f x157000 x157001).bind fun t158 => ((outbox_Right.f x157000 x157001).bind fun t159 => (if (t159 != t158) = true then (some false) else (if t158 = true then ((outbox_Put.f k x157000 x157001 x1).bind fun bt160 => (if (wrap64 ((x157001.length : Int) + (x1.length : Int))) > 256 then (if bt160.2.2 = 2 then ((batonlaw31_keys.f k bt160.1 bt160.2.1).bind fun t166 => ((batonlaw31_keys.f k x157000 x157001).bind fun t169 => ((batonref31_Same.f k t166 t169).bind fun t172 => (if t172 = true then (some (bt160.1 == x157000)) else (some false))))) else (some false)) else (if (wrap64 ((wrap64 (x157000 + (x157001.length : Int))) + (x1.length : Int))) > 281474976710656 then (if bt160.2.2 = 16 then ((batonlaw31_keys.f k bt160.1 bt160.2.1).bind fun t173 => ((batonlaw31_keys.f k x157000 x157001).bind fun t176 => ((batonref31_Same.f k t173 t176).bind fun t179 => (if t179 = true then (some (bt160.1 == x157000)) else (some false))))) else (some false)) else ((some (([] : List (S140)) : List (S140))).bind fun y180 => ((batonlaw31_keys.f k x157000 x157001).bind fun t183 => (if y180.length + t183.length < 8796093022208 then ((some (y180 ++ t183 : List (S140))).bind fun y186 => ((batonref31_Keys.f k (wrap64 (x157000 + (x157001.length : Int))) x1).bind fun t189 => (if y186.length + t189.length < 8796093022208 then (if bt160.2.2 = 0 then ((outbox_Next.f x157000 x157001).bind fun t195 => (if t195 = (wrap64 (x157000 + (x157001.length : Int))) then ((outbox_Next.f bt160.1 bt160.2.1).bind fun t196 => (if t196 = (wrap64 ((wrap64 (x157000 + (x157001.length : Int))) + (x1.length : Int))) then (if bt160.1 = x157000 then ((batonlaw31_keys.f k bt160.1 bt160.2.1).bind fun t197 => ((batonref31_Same.f k t197 (y186 ++ t189)).bind fun t200 => (if t200 = true then ((batonlaw31_right.f bt160.1 bt160.2.1).bind fun t201 => (some t201)) else (some false)))) else (some false)) else (some false))) else (some false))) else (some false)) else (none)))) else (none))))))) else (some true)))))
def batonlaw31_OutboxPuts.f (k : Nat) (a0_0 : Int) (l0_1 : List Int) (l1 : List Int) : Option (Bool) := (batonlaw31_awake.f k).bind fun t157 => (if t157 = true then (if (l0_1.length : Int) > 400 then (batonlaw31_OutboxPuts.j0 k l1 true a0_0 l0_1) else (batonlaw31_OutboxPuts.j0 k l1 (decide ((l1.length : Int) > 400)) a0_0 l0_1)) else (some false))
theorem batonlaw31_OutboxPuts.mono_l : ∀ k, (∀ y0 y1 y2 y3, LeO (batonlaw31_OutboxPuts.j0 k y0 y1 y2 y3) (batonlaw31_OutboxPuts.j0 (k + 1) y0 y1 y2 y3))
 | 0 => fun _ _ _ _ r h => by simp [batonlaw31_OutboxPuts.j0] at h
 | k + 1 => by
  have ih0 := batonlaw31_OutboxPuts.mono_l k
  ·intro y0 y1 y2 y3
   unfold batonlaw31_OutboxPuts.j0
   repeat' first
   | (with_reducible exact ih0 _ _ _ _)
   | (with_reducible exact batonlaw31_awake.mono _)
   | (with_reducible exact batonlaw31_keys.mono _ _ _)
   | (with_reducible exact batonref31_Keys.mono _ _ _)
   | (with_reducible exact batonref31_Same.mono _ _ _)
   | (with_reducible exact outbox_Put.mono _ _ _ _)
   | (with_reducible exact LeO.refl _)
   | (with_reducible exact LeO.none _)
   | (with_reducible refine LeO.ite ?_ ?_)
   | (with_reducible refine LeO.bind ?_ (fun _ => ?_))
   | exact ih0 _ _ _ _
   | exact batonlaw31_awake.mono _
   | exact batonlaw31_keys.mono _ _ _
   | exact batonref31_Keys.mono _ _ _
   | exact batonref31_Same.mono _ _ _
   | exact outbox_Put.mono _ _ _ _
   | exact LeO.none _
   | refine LeO.ite ?_ ?_
   | refine LeO.bind ?_ (fun _ => ?_)
theorem batonlaw31_OutboxPuts.mono : ∀ a0 a1 a2 k, LeO (batonlaw31_OutboxPuts.f k a0 a1 a2) (batonlaw31_OutboxPuts.f (k + 1) a0 a1 a2) := by
 intro a0 a1 a2 k
 have ih0 := batonlaw31_OutboxPuts.mono_l k
 unfold batonlaw31_OutboxPuts.f
 repeat' first
   | (with_reducible exact ih0 _ _ _ _)
   | (with_reducible exact batonlaw31_awake.mono _)
   | (with_reducible exact batonlaw31_keys.mono _ _ _)
   | (with_reducible exact batonref31_Keys.mono _ _ _)
   | (with_reducible exact batonref31_Same.mono _ _ _)
   | (with_reducible exact outbox_Put.mono _ _ _ _)
   | (with_reducible exact LeO.refl _)
   | (with_reducible exact LeO.none _)
   | (with_reducible refine LeO.ite ?_ ?_)
   | (with_reducible refine LeO.bind ?_ (fun _ => ?_))
   | exact ih0 _ _ _ _
   | exact batonlaw31_awake.mono _
   | exact batonlaw31_keys.mono _ _ _
   | exact batonref31_Keys.mono _ _ _
   | exact batonref31_Same.mono _ _ _
   | exact outbox_Put.mono _ _ _ _
   | exact LeO.none _
   | refine LeO.ite ?_ ?_
   | refine LeO.bind ?_ (fun _ => ?_)
def batonlaw31_OutboxPuts.T13 : Bool × List (List Nat × List Nat) := (true, [([], []), ([0], [0]), ([1], [1]), ([2], [2]), ([3, 2, 2], [2, 3]), ([2], [2]), ([5, 4, 2], [2, 5]), ([4, 6, 6, 2], [2, 4, 6]), ([2, 7], [2, 7]), ([8, 7], [8]), ([9], [9]), ([10, 9], [9, 10]), ([9], [9]), ([12, 9], [9, 12]), ([11, 13, 9], [9, 11, 13]), ([9, 14], [9, 14]), ([15, 9, 0, 1, 2, 3, 4, 5, 6, 7, 8, 9, 10, 11, 12, 13, 14, 15], [15])])
def batonlaw31_OutboxPuts.B13 : List Nat := [0, 1, 3, 7, 15, 7, 63, 127, 255, 511, 1023, 2047, 1023, 5119, 16383, 32767, 65535]
theorem batonlaw31_OutboxPuts.tab13 : rtab .any (opsOf Try.f6 13) = batonlaw31_OutboxPuts.T13 := by kernel_rfl
theorem batonlaw31_OutboxPuts.bits13 : waitsOk batonlaw31_OutboxPuts.T13.2 batonlaw31_OutboxPuts.B13 = true := by kernel_rfl
def batonlaw31_OutboxPuts.T15 : Bool × List (List Nat × List Nat) := (true, [([], []), ([0], [0]), ([1], [1]), ([2], [2]), ([3, 2, 2], [2, 3]), ([2], [2]), ([5, 4, 2], [2, 5]), ([4, 6, 6, 2], [2, 4, 6]), ([2, 7], [2, 7]), ([8, 7], [8]), ([9], [9]), ([10, 9], [9, 10]), ([9], [9]), ([12, 9], [9, 12]), ([11, 13, 9], [9, 11, 13]), ([9, 14], [9, 14]), ([15, 9, 0, 1, 2, 3, 4, 5, 6, 7, 8, 9, 10, 11, 12, 13, 14, 15], [15])])
def batonlaw31_OutboxPuts.B15 : List Nat := [0, 1, 3, 7, 15, 7, 63, 127, 255, 511, 1023, 2047, 1023, 5119, 16383, 32767, 65535]
theorem batonlaw31_OutboxPuts.tab15 : rtab .any (opsOf Try.f6 15) = batonlaw31_OutboxPuts.T15 := by kernel_rfl
theorem batonlaw31_OutboxPuts.bits15 : waitsOk batonlaw31_OutboxPuts.T15.2 batonlaw31_OutboxPuts.B15 = true := by kernel_rfl
theorem q_1 {p : Prop} (h : p := by repeat (first | (with_reducible first | exact HB.out | apply below_alloc | apply pw_below_drewN | apply below_drew1 | refine below_set ?_ GE156.out) | exact HB.out)) : p := h
theorem q_2 {p : Prop} (h : p := by repeat (first | (with_reducible first | exact HB.out | apply below_alloc | apply pw_below_drewN | apply below_drew1 | refine below_set ?_ GE156.out | refine below_set ?_ GE165.out) | exact HB.out)) : p := h
theorem q_3 {p : Prop} (h : p := by (with_reducible repeat (first | refine blk_drewN ?_ _ | refine blk_drew ?_ | refine blk_alloc ?_ _)); exact BK156.out) : p := h
theorem q_4 {p : Prop} (h : p := by (try simp only [List.map_toArray, List.map_cons, List.map_nil]); first | done | rfl | (simp only [List.length_drop, List.length_take]; rfl)) : p := h
theorem q_5 {p : Prop} (h : p := by (with_reducible repeat (first | refine blk_drewN ?_ _ | refine blk_drew ?_ | refine blk_alloc ?_ _)); exact BK165.out) : p := h
theorem q_6 {p : Prop} (h : p := by (with_reducible repeat (first | apply Kd.V_alloc | apply Kd.V_drewN | apply Kd.V_drew)); exact HO163.out) : p := h
theorem q_7 {p : Prop} (h : p := by (with_reducible repeat (first | apply Kd.R_alloc | apply Kd.R_drewN | apply Kd.R_drew)); exact HO185.out) : p := h
theorem q_8 {p : Prop} (h : p := by (with_reducible repeat (first | refine blk_drewN ?_ _ | refine blk_drew ?_ | refine blk_alloc ?_ _)); refine blk_put (cs := #[.int .i64 t160, .slice none 0 0]) ?_ 1 _ rfl; (with_reducible repeat (first | refine blk_drewN ?_ _ | refine blk_drew ?_ | refine blk_alloc ?_ _)); refine blk_put (cs := #[.int .i64 0, .slice none 0 0]) ?_ 0 _ rfl; (with_reducible repeat (first | refine blk_drewN ?_ _ | refine blk_drew ?_ | refine blk_alloc ?_ _)); exact BK165.out) : p := h
theorem q_9 {p : Prop} (h : p := by (with_reducible repeat (first | apply Kd.R_alloc | apply Kd.R_drewN | apply Kd.R_drew)); exact HO191.out) : p := h
theorem q_10 {p : Prop} (h : p := by kernel_rfl) : p := h
theorem q_11 {p : Prop} (h : p := by (with_reducible repeat (first | refine blk_drewN ?_ _ | refine blk_drew ?_ | refine blk_alloc ?_ _)); refine blk_far ?_ NB156_165.out _; (with_reducible repeat (first | refine blk_drewN ?_ _ | refine blk_drew ?_ | refine blk_alloc ?_ _)); refine blk_far ?_ NB156_165.out _; (with_reducible repeat (first | refine blk_drewN ?_ _ | refine blk_drew ?_ | refine blk_alloc ?_ _)); exact BK156.out) : p := h
theorem q_12 {p : Prop} (h : p := by (with_reducible repeat (first | apply Kd.R_alloc | apply Kd.R_drewN | apply Kd.R_drew)); exact HO188.out) : p := h
theorem q_13 {p : Prop} (h : p := by (with_reducible repeat (first | apply Kd.R_alloc | apply Kd.R_drewN | apply Kd.R_drew)); exact HO194.out) : p := h
theorem q_14 {p : Prop} (h : p := by (with_reducible repeat (first | apply Kd.R_alloc | apply Kd.R_drewN | apply Kd.R_drew)); exact HO182.out) : p := h
theorem q_15 {p : Prop} (h : p := by (with_reducible repeat (first | apply Kd.V_alloc | apply Kd.V_drewN | apply Kd.V_drew)); exact Kd.V_mono HO163.out (fun _ hk => ⟨⟨hk.1.1.1, ⟨hk.2, ⟨hk.1.1.2.1, hk.1.1.2.2⟩⟩⟩, hk.1.2⟩)) : p := h
theorem q_16 {p : Prop} (h : p := by (with_reducible repeat (first | apply Kd.V_alloc | apply Kd.V_drewN | apply Kd.V_drew)); exact Kd.V_mono HO163.out (fun _ hk => ⟨⟨hk.2, ⟨hk.1.1.1, hk.1.1.2⟩⟩, hk.1.2⟩)) : p := h
theorem q_17 {p : Prop} (h : p := by (with_reducible repeat (first | apply Kd.R_alloc | apply Kd.R_drewN | apply Kd.R_drew)); exact Kd.R_mono HO191.out (fun _ hk => ⟨hk.1.2, hk.2⟩)) : p := h
theorem q_18 {p : Prop} (h : p := by (with_reducible repeat (first | apply Kd.R_alloc | apply Kd.R_drewN | apply Kd.R_drew)); exact Kd.R_mono HO185.out (fun _ hk => ⟨hk.2, hk.1.2⟩)) : p := h
theorem q_19 {p : Prop} (h : p := by (with_reducible repeat (first | apply Kd.R_alloc | apply Kd.R_drewN | apply Kd.R_drew)); exact Kd.R_mono HO182.out (fun _ hk => hk.2)) : p := h
theorem q_20 {p : Prop} (h : p := by repeat (first | (with_reducible first | exact HB.out | apply below_alloc | apply pw_below_drewN | apply below_drew1) | exact HB.out)) : p := h
theorem q_21 {p : Prop} (h : p := by rw [e_]; exact GW156.out) : p := h
theorem q_22 {p : Prop} (h : p := by decide) : p := h
theorem q_23 {p : Prop} (h : p := by (with_reducible repeat (first | apply Kd.R_alloc | apply Kd.R_drewN | apply Kd.R_drew)); exact HO175.out) : p := h
set_option maxHeartbeats 8000000 in
set_option maxRecDepth 100000 in
theorem batonlaw31_OutboxPuts.calls (k : Nat) (a0_0 : Int) (A0_1 : Option Addr) (c0_1 : Nat) (l0_1 : List Int) (A1 : Option Addr) (c1 : Nat) (l1 : List Int) (r : Bool) (w : World) (hr0_1 : Kd.C (Kd.int .u8) w A0_1 l0_1.length l0_1) (hc0_1 : l0_1.length <= c0_1) (hr1 : Kd.C (Kd.int .u8) w A1 l1.length l1) (hc1 : l1.length <= c1) (h : batonlaw31_OutboxPuts.f k a0_0 l0_1 l1 = some r) :
  Calls Try.prog 6 #[.agg #[.int .i64 a0_0, .slice A0_1 l0_1.length c0_1], .slice A1 l1.length c1] w fun e w' => e = .returned (.bool r) /\ Below w.heap.size w w' := by
 have hu47 := Try.underlying47
 have HR0_1 := Aside0.mk hr0_1
 have HC0_1 := Aside0.mk hc0_1
 clear hr0_1 hc0_1
 have HR1 := Aside0.mk hr1
 have HC1 := Aside0.mk hc1
 clear hr1 hc1
 have HB := Aside0.mk (Below.refl w.heap.size w)
 have H : ((batonlaw31_awake.f k).bind fun t157 => (if t157 = true then (if (l0_1.length : Int) > 400 then (batonlaw31_OutboxPuts.j0 k l1 true a0_0 l0_1) else (batonlaw31_OutboxPuts.j0 k l1 (decide ((l1.length : Int) > 400)) a0_0 l0_1)) else (some false))) = some r := h
 clear h
 replace H := Option.bind_eq_some_iff.mp H
 obtain ⟨t157, A30, H⟩ := H
 replace H : (if t157 = true then (if (l0_1.length : Int) > 400 then (batonlaw31_OutboxPuts.j0 k l1 true a0_0 l0_1) else (batonlaw31_OutboxPuts.j0 k l1 (decide ((l1.length : Int) > 400)) a0_0 l0_1)) else (some false)) = some r := H
 have A3 := Aside0.mk A30
 clear A30
 by_cases c4 : t157 = true
 ·subst c4
  have H1 : (if (l0_1.length : Int) > 400 then (batonlaw31_OutboxPuts.j0 k l1 true a0_0 l0_1) else (batonlaw31_OutboxPuts.j0 k l1 (decide ((l1.length : Int) > 400)) a0_0 l0_1)) = some r := by rw [if_pos rfl] at H; exact H
  clear H
  have H := H1
  clear H1
  have HC5 := Aside0.mk H
  clear H
  go_enter Try.func6, Try.ntmps6
  go_upto_region 3 with (first | ((with_reducible refine gate_dst (N := 2) rfl ?_); (try (refine gate_guard (by rfl) ?_; dsimp only)); refine box_event ?hg (N := 2) ?hd (cs := #[.int .i64 a0_0, .slice A0_1 l0_1.length c0_1]) (t := 47) ?hr ?_; (case hd => rfl); (case hg => rfl); (case hr => first | (go_simp; done) | (go_simp; rfl)); intro gb156 hg w6 hbox hb; have n0_ := Aside0.mk (below_step q_20 hb); have n1_ := Aside0.mk (hbox); have n2_ := Aside0.mk ((by rw [hg]; exact (below_size q_20) : w.heap.size <= gb156)); have n3_ := Aside0.mk ((by rw [hg]; exact (below_size q_20) : w.heap.size <= gb156)); clear HB; have HB := n0_; have BK156 := n1_; have GW156 := n2_; have GE156 := n3_; clear n0_ n1_ n2_ n3_; clear hb hbox hg) | ((with_reducible refine gate_callee (f := 25) rfl ?_); refine goesL_ (some 10) rfl rfl Try.func25 q_10 rfl #[] rfl q_4 ?_; (with_reducible refine (batonlaw31_awake.calls k  true _ A3.out).mono ?_); rintro e w7 ⟨rfl, hb⟩; refine ⟨_, rfl, ?_⟩; have n0_ := Aside0.mk (blk_below (g := gb156) (o := .cells #[.int .i64 a0_0, .slice A0_1 l0_1.length c0_1] 47 (0, 0)) q_3 hb); have n1_ := Aside0.mk (below_step q_1 hb); clear BK156; clear HB; have BK156 := n0_; have HB := n1_; clear n0_ n1_; (try clear hb); (try clear hb2); (try clear hk); (try clear hi)))
  (try simp only [Act.put, List.setIfInBounds_toArray, List.set_cons_zero, List.set_cons_succ])
  go_cut [20] (fun v20 wc => ∃ (kq : Nat) (x20_4 : Bool), v20 = .bool x20_4 /\ Aside0 (batonlaw31_OutboxPuts.j0 kq l1 x20_4 a0_0 l0_1 = some r) /\ Aside0 (kq <= k) /\ Aside0 (wc.heap[gb156]? = some (.cells #[.int .i64 a0_0, (.slice A0_1 l0_1.length c0_1)] 47 (0, 0))) /\ Aside0 (Below w.heap.size w wc))
  case first =>
   have H := HC5.out
   clear HC5
   by_cases c8 : (l0_1.length : Int) > 400
   ·rw [if_pos c8] at H
    have c8b0 : decide (400 < (l0_1.length : Int)) = true := decide_eq_true c8
    have c8b1 : decide (400 < l0_1.length) = true := decide_eq_true (by omega)
    clear c8
    (first | rw [c8b0] | (simp only [i64_w, i32_w]; rw [c8b0]) | skip)
    have H' := Aside0.mk H
    clear H
    have hcz9_0 : w7.cell? ⟨gb156, 0, none⟩ = some (.int .i64 a0_0) := (blk_cell BK156.out 0).trans rfl
    have hcz9_1 : w7.cell? ⟨gb156, 1, none⟩ = some (.slice A0_1 l0_1.length c0_1) := (blk_cell BK156.out 1).trans rfl
    have hfz9_0 := blk_frozen BK156.out 0
    have hfz9_1 := blk_frozen BK156.out 1
    go_wp2
    go_meet
    case rel => exact ⟨_, (true), (by first | rfl | (simp; done) | (simp [*]; done)), H', ⟨by first | omega | exact Nat.le_refl _⟩, ⟨by (with_reducible repeat (first | refine blk_drewN ?_ _ | refine blk_drew ?_ | refine blk_alloc ?_ _)); exact BK156.out⟩, ⟨by repeat (first | (with_reducible first | exact HB.out | apply below_alloc | apply pw_below_drewN | apply below_drew1 | refine below_set ?_ GE156.out) | exact HB.out)⟩⟩
   ·rw [if_neg c8] at H
    have c8b0 : decide (400 < (l0_1.length : Int)) = false := decide_eq_false c8
    have c8b1 : decide (400 < l0_1.length) = false := decide_eq_false (by omega)
    clear c8
    (first | rw [c8b0] | (simp only [i64_w, i32_w]; rw [c8b0]) | skip)
    have H' := Aside0.mk H
    clear H
    have hcz10_0 : w7.cell? ⟨gb156, 0, none⟩ = some (.int .i64 a0_0) := (blk_cell BK156.out 0).trans rfl
    have hcz10_1 : w7.cell? ⟨gb156, 1, none⟩ = some (.slice A0_1 l0_1.length c0_1) := (blk_cell BK156.out 1).trans rfl
    have hfz10_0 := blk_frozen BK156.out 0
    have hfz10_1 := blk_frozen BK156.out 1
    go_wp2
    go_meet
    case rel => exact ⟨_, (decide ((l1.length : Int) > 400)), (by first | rfl | (simp; done) | (simp [*]; done)), H', ⟨by first | omega | exact Nat.le_refl _⟩, ⟨by (with_reducible repeat (first | refine blk_drewN ?_ _ | refine blk_drew ?_ | refine blk_alloc ?_ _)); exact BK156.out⟩, ⟨by repeat (first | (with_reducible first | exact HB.out | apply below_alloc | apply pw_below_drewN | apply below_drew1 | refine below_set ?_ GE156.out) | exact HB.out)⟩⟩
  case rest =>
   clear HC5
   try clear c1
   try clear c2
   try clear p2
   try clear c4
   try clear c6
   try clear c8
   try clear c8b0
   try clear c8b1
   try clear hcz10_0
   try clear hcz10_1
   try clear hcz9_0
   try clear hcz9_1
   try clear hfz10_0
   try clear hfz10_1
   try clear hfz9_0
   try clear hfz9_1
   obtain ⟨kq, x20_4, rfl, HA, HJ4, BK156, HB⟩ := hcut
   cases kq with
   | zero => exact absurd HA.out (by simp [batonlaw31_OutboxPuts.j0])
   | succ kj4 =>
    have H := HA.out
    clear HA
    simp only [batonlaw31_OutboxPuts.j0] at H
    by_cases c11 : x20_4 = true
    ·subst c11
     have H1 : (some true) = some r := by rw [if_pos rfl] at H; exact H
     clear H
     have H := H1
     clear H1
     obtain rfl := Option.some.inj H
     go_wp2
     go_ret
     exact ⟨by first | rfl | (simp [errW_none, errW_some] <;> rfl) | (simp [*, errW_none, errW_some] <;> rfl), by repeat (first | (with_reducible first | exact HB.out | apply below_alloc | apply pw_below_drewN | apply below_drew1 | refine below_set ?_ GE156.out) | exact HB.out)⟩
    ·replace c11 := Bool.eq_false_iff.mpr c11
     subst c11
     have H1 : ((batonlaw31_right.f a0_0 l0_1).bind fun t158 => ((outbox_Right.f a0_0 l0_1).bind fun t159 => (if (t159 != t158) = true then (some false) else (if t158 = true then ((outbox_Put.f kj4 a0_0 l0_1 l1).bind fun bt160 => (if (wrap64 ((l0_1.length : Int) + (l1.length : Int))) > 256 then (if bt160.2.2 = 2 then ((batonlaw31_keys.f kj4 bt160.1 bt160.2.1).bind fun t166 => ((batonlaw31_keys.f kj4 a0_0 l0_1).bind fun t169 => ((batonref31_Same.f kj4 t166 t169).bind fun t172 => (if t172 = true then (some (bt160.1 == a0_0)) else (some false))))) else (some false)) else (if (wrap64 ((wrap64 (a0_0 + (l0_1.length : Int))) + (l1.length : Int))) > 281474976710656 then (if bt160.2.2 = 16 then ((batonlaw31_keys.f kj4 bt160.1 bt160.2.1).bind fun t173 => ((batonlaw31_keys.f kj4 a0_0 l0_1).bind fun t176 => ((batonref31_Same.f kj4 t173 t176).bind fun t179 => (if t179 = true then (some (bt160.1 == a0_0)) else (some false))))) else (some false)) else ((some (([] : List (S140)) : List (S140))).bind fun y180 => ((batonlaw31_keys.f kj4 a0_0 l0_1).bind fun t183 => (if y180.length + t183.length < 8796093022208 then ((some (y180 ++ t183 : List (S140))).bind fun y186 => ((batonref31_Keys.f kj4 (wrap64 (a0_0 + (l0_1.length : Int))) l1).bind fun t189 => (if y186.length + t189.length < 8796093022208 then (if bt160.2.2 = 0 then ((outbox_Next.f a0_0 l0_1).bind fun t195 => (if t195 = (wrap64 (a0_0 + (l0_1.length : Int))) then ((outbox_Next.f bt160.1 bt160.2.1).bind fun t196 => (if t196 = (wrap64 ((wrap64 (a0_0 + (l0_1.length : Int))) + (l1.length : Int))) then (if bt160.1 = a0_0 then ((batonlaw31_keys.f kj4 bt160.1 bt160.2.1).bind fun t197 => ((batonref31_Same.f kj4 t197 (y186 ++ t189)).bind fun t200 => (if t200 = true then ((batonlaw31_right.f bt160.1 bt160.2.1).bind fun t201 => (some t201)) else (some false)))) else (some false)) else (some false))) else (some false))) else (some false)) else (none)))) else (none))))))) else (some true))))) = some r := by rw [if_neg (show ¬ (false = true) by decide)] at H; exact H
     clear H
     have H := H1
     clear H1
     replace H := Option.bind_eq_some_iff.mp H
     obtain ⟨t158, A120, H⟩ := H
     replace H : ((outbox_Right.f a0_0 l0_1).bind fun t159 => (if (t159 != t158) = true then (some false) else (if t158 = true then ((outbox_Put.f kj4 a0_0 l0_1 l1).bind fun bt160 => (if (wrap64 ((l0_1.length : Int) + (l1.length : Int))) > 256 then (if bt160.2.2 = 2 then ((batonlaw31_keys.f kj4 bt160.1 bt160.2.1).bind fun t166 => ((batonlaw31_keys.f kj4 a0_0 l0_1).bind fun t169 => ((batonref31_Same.f kj4 t166 t169).bind fun t172 => (if t172 = true then (some (bt160.1 == a0_0)) else (some false))))) else (some false)) else (if (wrap64 ((wrap64 (a0_0 + (l0_1.length : Int))) + (l1.length : Int))) > 281474976710656 then (if bt160.2.2 = 16 then ((batonlaw31_keys.f kj4 bt160.1 bt160.2.1).bind fun t173 => ((batonlaw31_keys.f kj4 a0_0 l0_1).bind fun t176 => ((batonref31_Same.f kj4 t173 t176).bind fun t179 => (if t179 = true then (some (bt160.1 == a0_0)) else (some false))))) else (some false)) else ((some (([] : List (S140)) : List (S140))).bind fun y180 => ((batonlaw31_keys.f kj4 a0_0 l0_1).bind fun t183 => (if y180.length + t183.length < 8796093022208 then ((some (y180 ++ t183 : List (S140))).bind fun y186 => ((batonref31_Keys.f kj4 (wrap64 (a0_0 + (l0_1.length : Int))) l1).bind fun t189 => (if y186.length + t189.length < 8796093022208 then (if bt160.2.2 = 0 then ((outbox_Next.f a0_0 l0_1).bind fun t195 => (if t195 = (wrap64 (a0_0 + (l0_1.length : Int))) then ((outbox_Next.f bt160.1 bt160.2.1).bind fun t196 => (if t196 = (wrap64 ((wrap64 (a0_0 + (l0_1.length : Int))) + (l1.length : Int))) then (if bt160.1 = a0_0 then ((batonlaw31_keys.f kj4 bt160.1 bt160.2.1).bind fun t197 => ((batonref31_Same.f kj4 t197 (y186 ++ t189)).bind fun t200 => (if t200 = true then ((batonlaw31_right.f bt160.1 bt160.2.1).bind fun t201 => (some t201)) else (some false)))) else (some false)) else (some false))) else (some false))) else (some false)) else (none)))) else (none))))))) else (some true)))) = some r := H
     have A12 := Aside0.mk A120
     clear A120
     replace H := Option.bind_eq_some_iff.mp H
     obtain ⟨t159, A130, H⟩ := H
     replace H : (if (t159 != t158) = true then (some false) else (if t158 = true then ((outbox_Put.f kj4 a0_0 l0_1 l1).bind fun bt160 => (if (wrap64 ((l0_1.length : Int) + (l1.length : Int))) > 256 then (if bt160.2.2 = 2 then ((batonlaw31_keys.f kj4 bt160.1 bt160.2.1).bind fun t166 => ((batonlaw31_keys.f kj4 a0_0 l0_1).bind fun t169 => ((batonref31_Same.f kj4 t166 t169).bind fun t172 => (if t172 = true then (some (bt160.1 == a0_0)) else (some false))))) else (some false)) else (if (wrap64 ((wrap64 (a0_0 + (l0_1.length : Int))) + (l1.length : Int))) > 281474976710656 then (if bt160.2.2 = 16 then ((batonlaw31_keys.f kj4 bt160.1 bt160.2.1).bind fun t173 => ((batonlaw31_keys.f kj4 a0_0 l0_1).bind fun t176 => ((batonref31_Same.f kj4 t173 t176).bind fun t179 => (if t179 = true then (some (bt160.1 == a0_0)) else (some false))))) else (some false)) else ((some (([] : List (S140)) : List (S140))).bind fun y180 => ((batonlaw31_keys.f kj4 a0_0 l0_1).bind fun t183 => (if y180.length + t183.length < 8796093022208 then ((some (y180 ++ t183 : List (S140))).bind fun y186 => ((batonref31_Keys.f kj4 (wrap64 (a0_0 + (l0_1.length : Int))) l1).bind fun t189 => (if y186.length + t189.length < 8796093022208 then (if bt160.2.2 = 0 then ((outbox_Next.f a0_0 l0_1).bind fun t195 => (if t195 = (wrap64 (a0_0 + (l0_1.length : Int))) then ((outbox_Next.f bt160.1 bt160.2.1).bind fun t196 => (if t196 = (wrap64 ((wrap64 (a0_0 + (l0_1.length : Int))) + (l1.length : Int))) then (if bt160.1 = a0_0 then ((batonlaw31_keys.f kj4 bt160.1 bt160.2.1).bind fun t197 => ((batonref31_Same.f kj4 t197 (y186 ++ t189)).bind fun t200 => (if t200 = true then ((batonlaw31_right.f bt160.1 bt160.2.1).bind fun t201 => (some t201)) else (some false)))) else (some false)) else (some false))) else (some false))) else (some false)) else (none)))) else (none))))))) else (some true))) = some r := H
     have A13 := Aside0.mk A130
     clear A130
     by_cases c14 : (t159 != t158) = true
     ·rw [if_pos c14] at H
      have c14b0 : (t159 != t158) = true := c14
      (try (have c14b1 : decide (t159 = t158) = false := by simpa using c14))
      (try (have c14b2 : (t159 == t158) = false := by simpa using c14))
      (try (have c14b3 : ¬ (t159 = t158) := by simpa using c14))
      clear c14
      obtain rfl := Option.some.inj H
      have hcz15_0 : wc.cell? ⟨gb156, 0, none⟩ = some (.int .i64 a0_0) := (blk_cell BK156.out 0).trans rfl
      have hcz15_1 : wc.cell? ⟨gb156, 1, none⟩ = some (.slice A0_1 l0_1.length c0_1) := (blk_cell BK156.out 1).trans rfl
      have hfz15_0 := blk_frozen BK156.out 0
      have hfz15_1 := blk_frozen BK156.out 1
      go_wp2_with (first | ((with_reducible refine gate_callee (f := 28) rfl ?_); refine goesL_ (some 22) rfl rfl Try.func28 q_10 rfl #[.agg #[.int .i64 a0_0, .slice A0_1 l0_1.length c0_1]] rfl q_4 ?_; (with_reducible refine (batonlaw31_right.calls a0_0 _ _ l0_1 t158 _ ?side1 ?side2 A12.out).mono ?_); (case side1 => repeat (first | exact (Kd.C_below HR0_1.out HB.out) | (with_reducible refine Kd.C_alloc ?_ _) | (with_reducible refine Kd.C_drewN ?_ _) | (with_reducible refine Kd.C_drew ?_))); (case side2 => exact HC0_1.out); rintro e w16 ⟨rfl, hb⟩; refine ⟨_, rfl, ?_⟩; have n0_ := Aside0.mk (blk_below (g := gb156) (o := .cells #[.int .i64 a0_0, .slice A0_1 l0_1.length c0_1] 47 (0, 0)) q_3 hb); have n1_ := Aside0.mk (below_step q_1 hb); clear BK156; clear HB; have BK156 := n0_; have HB := n1_; clear n0_ n1_; (try clear hb); (try clear hb2); (try clear hk); (try clear hi); have hcz17_0 : w16.cell? ⟨gb156, 0, none⟩ = some (.int .i64 a0_0) := (blk_cell BK156.out 0).trans rfl; have hcz17_1 : w16.cell? ⟨gb156, 1, none⟩ = some (.slice A0_1 l0_1.length c0_1) := (blk_cell BK156.out 1).trans rfl; have hfz17_0 := blk_frozen BK156.out 0; have hfz17_1 := blk_frozen BK156.out 1) | ((with_reducible refine gate_callee (f := 29) rfl ?_); refine goesL_ (some 24) rfl rfl Try.func29 q_10 rfl #[.agg #[.int .i64 a0_0, .slice A0_1 l0_1.length c0_1]] rfl q_4 ?_; (with_reducible refine (outbox_Right.calls a0_0 _ _ l0_1 t159 _ ?side1 ?side2 A13.out).mono ?_); (case side1 => repeat (first | exact (Kd.C_below HR0_1.out HB.out) | (with_reducible refine Kd.C_alloc ?_ _) | (with_reducible refine Kd.C_drewN ?_ _) | (with_reducible refine Kd.C_drew ?_))); (case side2 => exact HC0_1.out); rintro e w18 ⟨rfl, hb⟩; refine ⟨_, rfl, ?_⟩; have n0_ := Aside0.mk (blk_below (g := gb156) (o := .cells #[.int .i64 a0_0, .slice A0_1 l0_1.length c0_1] 47 (0, 0)) q_3 hb); have n1_ := Aside0.mk (below_step q_1 hb); clear BK156; clear HB; have BK156 := n0_; have HB := n1_; clear n0_ n1_; (try clear hb); (try clear hb2); (try clear hk); (try clear hi)))
      go_ret
      exact ⟨by first | rfl | (simp [errW_none, errW_some] <;> rfl) | (simp [*, errW_none, errW_some] <;> rfl), by repeat (first | (with_reducible first | exact HB.out | apply below_alloc | apply pw_below_drewN | apply below_drew1 | refine below_set ?_ GE156.out) | exact HB.out)⟩
     ·rw [if_neg c14] at H
      have c14b0 : (t159 != t158) = false := by simpa using c14
      (try (have c14b1 : decide (t159 = t158) = true := by simpa using c14))
      (try (have c14b2 : (t159 == t158) = true := by simpa using c14))
      clear c14
      by_cases c19 : t158 = true
      ·subst c19
       have H1 : ((outbox_Put.f kj4 a0_0 l0_1 l1).bind fun bt160 => (if (wrap64 ((l0_1.length : Int) + (l1.length : Int))) > 256 then (if bt160.2.2 = 2 then ((batonlaw31_keys.f kj4 bt160.1 bt160.2.1).bind fun t166 => ((batonlaw31_keys.f kj4 a0_0 l0_1).bind fun t169 => ((batonref31_Same.f kj4 t166 t169).bind fun t172 => (if t172 = true then (some (bt160.1 == a0_0)) else (some false))))) else (some false)) else (if (wrap64 ((wrap64 (a0_0 + (l0_1.length : Int))) + (l1.length : Int))) > 281474976710656 then (if bt160.2.2 = 16 then ((batonlaw31_keys.f kj4 bt160.1 bt160.2.1).bind fun t173 => ((batonlaw31_keys.f kj4 a0_0 l0_1).bind fun t176 => ((batonref31_Same.f kj4 t173 t176).bind fun t179 => (if t179 = true then (some (bt160.1 == a0_0)) else (some false))))) else (some false)) else ((some (([] : List (S140)) : List (S140))).bind fun y180 => ((batonlaw31_keys.f kj4 a0_0 l0_1).bind fun t183 => (if y180.length + t183.length < 8796093022208 then ((some (y180 ++ t183 : List (S140))).bind fun y186 => ((batonref31_Keys.f kj4 (wrap64 (a0_0 + (l0_1.length : Int))) l1).bind fun t189 => (if y186.length + t189.length < 8796093022208 then (if bt160.2.2 = 0 then ((outbox_Next.f a0_0 l0_1).bind fun t195 => (if t195 = (wrap64 (a0_0 + (l0_1.length : Int))) then ((outbox_Next.f bt160.1 bt160.2.1).bind fun t196 => (if t196 = (wrap64 ((wrap64 (a0_0 + (l0_1.length : Int))) + (l1.length : Int))) then (if bt160.1 = a0_0 then ((batonlaw31_keys.f kj4 bt160.1 bt160.2.1).bind fun t197 => ((batonref31_Same.f kj4 t197 (y186 ++ t189)).bind fun t200 => (if t200 = true then ((batonlaw31_right.f bt160.1 bt160.2.1).bind fun t201 => (some t201)) else (some false)))) else (some false)) else (some false))) else (some false))) else (some false)) else (none)))) else (none))))))) = some r := by rw [if_pos rfl] at H; exact H
       clear H
       have H := H1
       clear H1
       replace H := Option.bind_eq_some_iff.mp H
       obtain ⟨⟨t160, t161, t164⟩, A200, H⟩ := H
       replace H : (if (wrap64 ((l0_1.length : Int) + (l1.length : Int))) > 256 then (if t164 = 2 then ((batonlaw31_keys.f kj4 t160 t161).bind fun t166 => ((batonlaw31_keys.f kj4 a0_0 l0_1).bind fun t169 => ((batonref31_Same.f kj4 t166 t169).bind fun t172 => (if t172 = true then (some (t160 == a0_0)) else (some false))))) else (some false)) else (if (wrap64 ((wrap64 (a0_0 + (l0_1.length : Int))) + (l1.length : Int))) > 281474976710656 then (if t164 = 16 then ((batonlaw31_keys.f kj4 t160 t161).bind fun t173 => ((batonlaw31_keys.f kj4 a0_0 l0_1).bind fun t176 => ((batonref31_Same.f kj4 t173 t176).bind fun t179 => (if t179 = true then (some (t160 == a0_0)) else (some false))))) else (some false)) else ((some (([] : List (S140)) : List (S140))).bind fun y180 => ((batonlaw31_keys.f kj4 a0_0 l0_1).bind fun t183 => (if y180.length + t183.length < 8796093022208 then ((some (y180 ++ t183 : List (S140))).bind fun y186 => ((batonref31_Keys.f kj4 (wrap64 (a0_0 + (l0_1.length : Int))) l1).bind fun t189 => (if y186.length + t189.length < 8796093022208 then (if t164 = 0 then ((outbox_Next.f a0_0 l0_1).bind fun t195 => (if t195 = (wrap64 (a0_0 + (l0_1.length : Int))) then ((outbox_Next.f t160 t161).bind fun t196 => (if t196 = (wrap64 ((wrap64 (a0_0 + (l0_1.length : Int))) + (l1.length : Int))) then (if t160 = a0_0 then ((batonlaw31_keys.f kj4 t160 t161).bind fun t197 => ((batonref31_Same.f kj4 t197 (y186 ++ t189)).bind fun t200 => (if t200 = true then ((batonlaw31_right.f t160 t161).bind fun t201 => (some t201)) else (some false)))) else (some false)) else (some false))) else (some false))) else (some false)) else (none)))) else (none)))))) = some r := H
       have A20 := Aside0.mk A200
       clear A200
       by_cases c21 : (wrap64 ((l0_1.length : Int) + (l1.length : Int))) > 256
       ·rw [if_pos c21] at H
        have c21b0 : decide (256 < (wrap64 ((l0_1.length : Int) + (l1.length : Int)))) = true := decide_eq_true c21
        clear c21
        by_cases c22 : t164 = 2
        ·rw [if_pos c22] at H
         have c22b0 : (t164 == 2) = true := beq_iff_eq.mpr c22
         have c22b1 : (t164 != 2) = false := bne_eq_false_iff_eq.mpr c22
         clear c22
         replace H := Option.bind_eq_some_iff.mp H
         obtain ⟨t166, A230, H⟩ := H
         replace H : ((batonlaw31_keys.f kj4 a0_0 l0_1).bind fun t169 => ((batonref31_Same.f kj4 t166 t169).bind fun t172 => (if t172 = true then (some (t160 == a0_0)) else (some false)))) = some r := H
         have A23 := Aside0.mk A230
         clear A230
         replace H := Option.bind_eq_some_iff.mp H
         obtain ⟨t169, A240, H⟩ := H
         replace H : ((batonref31_Same.f kj4 t166 t169).bind fun t172 => (if t172 = true then (some (t160 == a0_0)) else (some false))) = some r := H
         have A24 := Aside0.mk A240
         clear A240
         replace H := Option.bind_eq_some_iff.mp H
         obtain ⟨t172, A250, H⟩ := H
         replace H : (if t172 = true then (some (t160 == a0_0)) else (some false)) = some r := H
         have A25 := Aside0.mk A250
         clear A250
         by_cases c26 : t172 = true
         ·subst c26
          have H1 : (some (t160 == a0_0)) = some r := by rw [if_pos rfl] at H; exact H
          clear H
          have H := H1
          clear H1
          obtain rfl := Option.some.inj H
          have hcz27_0 : wc.cell? ⟨gb156, 0, none⟩ = some (.int .i64 a0_0) := (blk_cell BK156.out 0).trans rfl
          have hcz27_1 : wc.cell? ⟨gb156, 1, none⟩ = some (.slice A0_1 l0_1.length c0_1) := (blk_cell BK156.out 1).trans rfl
          have hfz27_0 := blk_frozen BK156.out 0
          have hfz27_1 := blk_frozen BK156.out 1
          try go_wp2_with (first | ((with_reducible refine gate_callee (f := 28) rfl ?_); refine goesL_ (some 22) rfl rfl Try.func28 q_10 rfl #[.agg #[.int .i64 a0_0, .slice A0_1 l0_1.length c0_1]] rfl q_4 ?_; (with_reducible refine (batonlaw31_right.calls a0_0 _ _ l0_1 true _ ?side1 ?side2 A12.out).mono ?_); (case side1 => repeat (first | exact (Kd.C_below HR0_1.out HB.out) | (with_reducible refine Kd.C_alloc ?_ _) | (with_reducible refine Kd.C_drewN ?_ _) | (with_reducible refine Kd.C_drew ?_))); (case side2 => exact HC0_1.out); rintro e w28 ⟨rfl, hb⟩; refine ⟨_, rfl, ?_⟩; have n0_ := Aside0.mk (blk_below (g := gb156) (o := .cells #[.int .i64 a0_0, .slice A0_1 l0_1.length c0_1] 47 (0, 0)) q_3 hb); have n1_ := Aside0.mk (below_step q_1 hb); clear BK156; clear HB; have BK156 := n0_; have HB := n1_; clear n0_ n1_; (try clear hb); (try clear hb2); (try clear hk); (try clear hi); have hcz29_0 : w28.cell? ⟨gb156, 0, none⟩ = some (.int .i64 a0_0) := (blk_cell BK156.out 0).trans rfl; have hcz29_1 : w28.cell? ⟨gb156, 1, none⟩ = some (.slice A0_1 l0_1.length c0_1) := (blk_cell BK156.out 1).trans rfl; have hfz29_0 := blk_frozen BK156.out 0; have hfz29_1 := blk_frozen BK156.out 1) | ((with_reducible refine gate_callee (f := 29) rfl ?_); refine goesL_ (some 24) rfl rfl Try.func29 q_10 rfl #[.agg #[.int .i64 a0_0, .slice A0_1 l0_1.length c0_1]] rfl q_4 ?_; (with_reducible refine (outbox_Right.calls a0_0 _ _ l0_1 t159 _ ?side1 ?side2 A13.out).mono ?_); (case side1 => repeat (first | exact (Kd.C_below HR0_1.out HB.out) | (with_reducible refine Kd.C_alloc ?_ _) | (with_reducible refine Kd.C_drewN ?_ _) | (with_reducible refine Kd.C_drew ?_))); (case side2 => exact HC0_1.out); rintro e w30 ⟨rfl, hb⟩; refine ⟨_, rfl, ?_⟩; have n0_ := Aside0.mk (blk_below (g := gb156) (o := .cells #[.int .i64 a0_0, .slice A0_1 l0_1.length c0_1] 47 (0, 0)) q_3 hb); have n1_ := Aside0.mk (below_step q_1 hb); clear BK156; clear HB; have BK156 := n0_; have HB := n1_; clear n0_ n1_; (try clear hb); (try clear hb2); (try clear hk); (try clear hi); have hcz31_0 : w30.cell? ⟨gb156, 0, none⟩ = some (.int .i64 a0_0) := (blk_cell BK156.out 0).trans rfl; have hcz31_1 : w30.cell? ⟨gb156, 1, none⟩ = some (.slice A0_1 l0_1.length c0_1) := (blk_cell BK156.out 1).trans rfl; have hfz31_0 := blk_frozen BK156.out 0; have hfz31_1 := blk_frozen BK156.out 1) | ((with_reducible refine gate_callee (f := 27) rfl ?_); refine goesL_ (some 38) rfl rfl Try.func27 q_10 rfl #[.agg #[.int .i64 a0_0, .slice A0_1 l0_1.length c0_1], .slice A1 l1.length c1] rfl q_4 ?_; (with_reducible refine (outbox_Put.calls kj4 a0_0 (fun k_ => k_ < w.heap.size) _ _ l0_1 (fun k_ => k_ < w.heap.size) _ _ l1 t160 t161 t164 _ ?side1 ?side2 A20.out).mono ?_); (case side1 => exact Kd.V_mk HC0_1.out (Kd.F_below (Kd.C_F (Kd.heap_int .u8) HR0_1.out) q_1)); (case side2 => exact Kd.V_mk HC1.out (Kd.F_below (Kd.C_F (Kd.heap_int .u8) HR1.out) q_1)); rintro e w32 ⟨v162, rfl, ho0, hb⟩; refine ⟨_, rfl, ?_⟩; have n0_ := Aside0.mk (Kd.V_lower (Kd.V_mono (ok' := fun k_ => k_ ≠ gb156) ho0 (fun k_ hk_ => Or.elim hk_ (fun hs_ => Or.elim hs_ (fun hs_ => fun e_ => Nat.not_le.2 hs_ q_21) (fun hs_ => fun e_ => Nat.not_le.2 hs_ q_21)) (fun hn_ => (Kd.freshB (g := gb156) (o := .cells #[.int .i64 a0_0, .slice A0_1 l0_1.length c0_1] 47 (0, 0)) q_3 k_ hn_)))) (below_size q_1)); have n1_ := Aside0.mk (blk_below (g := gb156) (o := .cells #[.int .i64 a0_0, .slice A0_1 l0_1.length c0_1] 47 (0, 0)) q_3 hb); have n2_ := Aside0.mk (below_step q_1 hb); clear BK156; clear HB; have HO163 := n0_; have BK156 := n1_; have HB := n2_; clear n0_ n1_ n2_; (try clear hb); (try clear hb2); (try clear hk); (try clear hi); (try clear ho0)) | ((with_reducible refine gate_dst (N := 7) rfl ?_); (try (refine gate_guard (by rfl) ?_; dsimp only)); refine box_event ?hg (N := 7) ?hd (cs := #[.int .i64 0, .slice none 0 0]) (t := 47) ?hr ?_; (case hd => rfl); (case hg => rfl); (case hr => first | (go_simp; done) | (go_simp; rfl)); intro gb165 hg w33 hbox hb; have n0_ := Aside0.mk (Kd.V_below (Kd.V_elderB q_6 gb165 (Nat.le_of_eq hg.symm)) hb); have n1_ := Aside0.mk (blk_below (g := gb156) (o := .cells #[.int .i64 a0_0, .slice A0_1 l0_1.length c0_1] 47 (0, 0)) q_3 hb); have n2_ := Aside0.mk (below_step q_1 hb); have n3_ := Aside0.mk (hbox); have n4_ := Aside0.mk ((by rw [hg]; exact (below_size q_1) : w.heap.size <= gb165)); have n5_ := Aside0.mk ((by rw [hg]; exact (below_size q_1) : w.heap.size <= gb165)); have n6_ := Aside0.mk ((by rw [hg]; exact Nat.ne_of_lt (blk_lt (g := gb156) (o := .cells #[.int .i64 a0_0, .slice A0_1 l0_1.length c0_1] 47 (0, 0)) q_3) : gb156 ≠ gb165)); have n7_ := Aside0.mk ((by rw [hg]; exact Nat.ne_of_gt (blk_lt (g := gb156) (o := .cells #[.int .i64 a0_0, .slice A0_1 l0_1.length c0_1] 47 (0, 0)) q_3) : gb165 ≠ gb156)); clear HO163; clear BK156; clear HB; have HO163 := n0_; have BK156 := n1_; have HB := n2_; have BK165 := n3_; have GW165 := n4_; have GE165 := n5_; have NB156_165 := n6_; have NB165_156 := n7_; clear n0_ n1_ n2_ n3_ n4_ n5_ n6_ n7_; clear hb hbox hg; have hnb34 := NB165_156.out; have hnc34 := NB156_165.out; have hcz35_0 : w33.cell? ⟨gb165, 0, none⟩ = some (.int .i64 0) := (blk_cell BK165.out 0).trans rfl; have hcz35_1 : w33.cell? ⟨gb165, 1, none⟩ = some (.slice none 0 0) := (blk_cell BK165.out 1).trans rfl; have hfz35_0 := blk_frozen BK165.out 0; have hfz35_1 := blk_frozen BK165.out 1; obtain ⟨Ao36, co36, eo36⟩ := Kd.V_slice HO163.out; subst eo36; have hcz37_0 : w33.cell? ⟨gb156, 0, none⟩ = some (.int .i64 a0_0) := (blk_cell BK156.out 0).trans rfl; have hcz37_1 : w33.cell? ⟨gb156, 1, none⟩ = some (.slice A0_1 l0_1.length c0_1) := (blk_cell BK156.out 1).trans rfl; have hfz37_0 := blk_frozen BK156.out 0; have hfz37_1 := blk_frozen BK156.out 1))
          have n0_ : Aside0 (Kd.V (Kd.int .u8) 5 ((w33.setCell ⟨gb165, 0, none⟩ (.int .i64 t160)).setCell ⟨gb165, 1, none⟩ (.slice Ao36 t161.length co36)) w.heap.size (fun k_ => k_ ≠ gb156 /\ k_ ≠ gb165) (.slice Ao36 t161.length co36) t161) := ⟨by (with_reducible repeat (first | apply Kd.V_alloc | apply Kd.V_drewN | apply Kd.V_drew)); exact Kd.V_mono (Kd.V_far (p := ⟨gb165, 1, none⟩) (Kd.V_far (p := ⟨gb165, 0, none⟩) (Kd.V_mono HO163.out (fun k_ hk => (⟨hk, hk.2⟩ : _ /\ k_ ≠ gb165))) (fun _ hk => hk.2) (.int .i64 t160)) (fun _ hk => hk.2) (.slice Ao36 t161.length co36)) (fun _ hk => ⟨hk.1.1, hk.1.2⟩)⟩
          have n1_ : Aside0 (((w33.setCell ⟨gb165, 0, none⟩ (.int .i64 t160)).setCell ⟨gb165, 1, none⟩ (.slice Ao36 t161.length co36)).heap[gb156]? = some (.cells #[.int .i64 a0_0, .slice A0_1 l0_1.length c0_1] 47 (0, 0))) := ⟨by (with_reducible repeat (first | refine blk_drewN ?_ _ | refine blk_drew ?_ | refine blk_alloc ?_ _)); refine blk_far ?_ NB156_165.out _; (with_reducible repeat (first | refine blk_drewN ?_ _ | refine blk_drew ?_ | refine blk_alloc ?_ _)); refine blk_far ?_ NB156_165.out _; (with_reducible repeat (first | refine blk_drewN ?_ _ | refine blk_drew ?_ | refine blk_alloc ?_ _)); exact BK156.out⟩
          have n2_ : Aside0 (((w33.setCell ⟨gb165, 0, none⟩ (.int .i64 t160)).setCell ⟨gb165, 1, none⟩ (.slice Ao36 t161.length co36)).heap[gb165]? = some (.cells #[.int .i64 t160, .slice Ao36 t161.length co36] 47 (0, 0))) := ⟨by (with_reducible repeat (first | refine blk_drewN ?_ _ | refine blk_drew ?_ | refine blk_alloc ?_ _)); refine blk_put (cs := #[.int .i64 t160, .slice none 0 0]) ?_ 1 _ rfl; (with_reducible repeat (first | refine blk_drewN ?_ _ | refine blk_drew ?_ | refine blk_alloc ?_ _)); refine blk_put (cs := #[.int .i64 0, .slice none 0 0]) ?_ 0 _ rfl; (with_reducible repeat (first | refine blk_drewN ?_ _ | refine blk_drew ?_ | refine blk_alloc ?_ _)); exact BK165.out⟩
          have n3_ : Aside0 (Below w.heap.size w ((w33.setCell ⟨gb165, 0, none⟩ (.int .i64 t160)).setCell ⟨gb165, 1, none⟩ (.slice Ao36 t161.length co36))) := ⟨by repeat (first | (with_reducible first | exact HB.out | apply below_alloc | apply pw_below_drewN | apply below_drew1 | refine below_set ?_ GE156.out | refine below_set ?_ GE165.out) | exact HB.out)⟩
          (try clear HO163)
          (try clear BK156)
          (try clear BK165)
          (try clear HB)
          generalize ((w33.setCell ⟨gb165, 0, none⟩ (.int .i64 t160)).setCell ⟨gb165, 1, none⟩ (.slice Ao36 t161.length co36)) = w38 at n0_ n1_ n2_ n3_ ⊢
          have HO163 := n0_
          have BK156 := n1_
          have BK165 := n2_
          have HB := n3_
          clear n0_ n1_ n2_ n3_
          have n0_ := Aside0.mk (Kd.V_drew HO163.out)
          have n1_ := Aside0.mk (blk_drew BK156.out)
          have n2_ := Aside0.mk (blk_drew BK165.out)
          have n3_ := Aside0.mk (below_drew1 HB.out)
          clear HO163
          clear BK156
          clear BK165
          clear HB
          have HO163 := n0_
          have BK156 := n1_
          have BK165 := n2_
          have HB := n3_
          clear n0_ n1_ n2_ n3_
          refine start_ (n := 17) (S := fun w' => w'.cell? ⟨gb165, 0, none⟩ = some (.int .i64 t160) /\ w'.cell? ⟨gb165, 1, none⟩ = some (.slice Ao36 t161.length co36) /\ w'.cell? ⟨gb156, 0, none⟩ = some (.int .i64 a0_0) /\ w'.cell? ⟨gb156, 1, none⟩ = some (.slice A0_1 l0_1.length c0_1)) (ds := []) #[false, false, false, false, false, false, false, false, false, false, false, false, false, false, false, false, false] q_10 rfl rfl ⟨(blk_cell BK165.out 0).trans rfl, (blk_cell BK165.out 1).trans rfl, (blk_cell BK156.out 0).trans rfl, (blk_cell BK156.out 1).trans rfl⟩ (fun hHeld => ?_); refine with_tabW batonlaw31_OutboxPuts.tab13 batonlaw31_OutboxPuts.bits13 (fun HT_ HW_ => ?_)
          generalize w38.drew = w39 at HO163 BK156 BK165 HB hHeld ⊢
          refine pure_ (i := 0) (N := some 49) (v := ?_) (a' := ?_) #[true, false, false, false, false, false, false, false, false, false, false, false, false, false, false, false, false] rfl rfl (any_of HT_.out q_10) (fun _ _ _ h => h) (Or.inl ⟨by rfl, ?_⟩) ?_ ?_
          rotate_left
          ·intro w'
           go_simp
           with_reducible rfl
          rotate_left
          ·simp only [Act.put, List.setIfInBounds_toArray, List.set_cons_zero, List.set_cons_succ, i64_w, i32_w]
           rfl
          refine pure_ (i := 1) (N := some 50) (v := ?_) (a' := ?_) #[true, true, false, false, false, false, false, false, false, false, false, false, false, false, false, false, false] rfl rfl (any_of HT_.out q_10) (fun _ _ _ h => h) (Or.inl ⟨by rfl, ?_⟩) ?_ ?_
          rotate_left
          ·intro w'
           go_simp
           with_reducible rfl
          rotate_left
          ·simp only [Act.put, List.setIfInBounds_toArray, List.set_cons_zero, List.set_cons_succ, i64_w, i32_w]
           rfl
          refine pure_ (i := 2) (N := some 51) (v := ?_) (a' := ?_) #[true, true, true, false, false, false, false, false, false, false, false, false, false, false, false, false, false] rfl rfl (any_of HT_.out q_10) (fun _ _ _ h => h) (Or.inl ⟨by rfl, ?_⟩) ?_ ?_
          rotate_left
          ·intro w'
           go_simp
           with_reducible rfl
          rotate_left
          ·simp only [Act.put, List.setIfInBounds_toArray, List.set_cons_zero, List.set_cons_succ, i64_w, i32_w]
           rfl
          refine take_ (i := 3) (N := some 52) (v := ?_) (a' := ?_) #[true, true, true, true, false, false, false, false, false, false, false, false, false, false, false, false, false] rfl rfl (take_ofW HT_.out HW_.out q_10) (fun _ _ _ h => h) (Or.inl ⟨by rfl, ?_⟩) hHeld ?_ ?_
          rotate_left
          ·rintro w' ⟨s0, s1, s2, s3⟩
           go_simp
           with_reducible rfl
          rotate_left
          ·simp only [Act.put, List.setIfInBounds_toArray, List.set_cons_zero, List.set_cons_succ, i64_w, i32_w]
           rfl
          refine take_ (i := 5) (N := some 54) (v := ?_) (a' := ?_) #[true, true, true, true, false, true, false, false, false, false, false, false, false, false, false, false, false] rfl rfl (take_ofW HT_.out HW_.out q_10) (fun _ _ _ h => h) (Or.inl ⟨by rfl, ?_⟩) hHeld ?_ ?_
          rotate_left
          ·rintro w' ⟨s0, s1, s2, s3⟩
           go_simp
           with_reducible rfl
          rotate_left
          ·simp only [Act.put, List.setIfInBounds_toArray, List.set_cons_zero, List.set_cons_succ, i64_w, i32_w]
           rfl
          refine one_ (i := 4) (N := some 53) #[true, true, true, true, true, true, false, false, false, false, false, false, false, false, false, false, false] rfl rfl (one_of HT_.out q_10) q_22 (fun K hK => ?_)
          refine goes_ Try.func31 q_10 rfl #[.agg #[.int .i64 t160, .slice Ao36 t161.length co36]] (by rfl) rfl rfl q_4 ?_
          with_reducible refine (batonlaw31_keys.calls kj4 t160 _ _ t161 t166 _ ?side1 ?side2 A23.out).mono ?_
          (case side1 => repeat (first | exact (Kd.V_reads' HO163.out).2.2 | (with_reducible refine Kd.C_alloc ?_ _) | (with_reducible refine Kd.C_drewN ?_ _) | (with_reducible refine Kd.C_drew ?_)))
          (case side2 => exact (Kd.V_reads' HO163.out).2.1)
          rintro e w40 ⟨v167, rfl, ho0, hb⟩
          refine ⟨_, rfl, ?_⟩
          have n0_ := Aside0.mk (Kd.V_elder' q_6 (Kd.R_base ho0) hb)
          have n1_ := Aside0.mk (Kd.R_lower ho0 (below_size q_2))
          have n2_ := Aside0.mk (blk_below (g := gb156) (o := .cells #[.int .i64 a0_0, .slice A0_1 l0_1.length c0_1] 47 (0, 0)) q_3 hb)
          have n3_ := Aside0.mk (blk_below (g := gb165) (o := .cells #[.int .i64 t160, .slice Ao36 t161.length co36] 47 (0, 0)) q_5 hb)
          have n4_ := Aside0.mk (below_step q_2 hb)
          clear HO163
          clear BK156
          clear BK165
          clear HB
          have HO163 := n0_
          have HO168 := n1_
          have BK156 := n2_
          have BK165 := n3_
          have HB := n4_
          clear n0_ n1_ n2_ n3_ n4_
          (try clear hb)
          (try clear hb2)
          (try clear hk)
          (try clear hi)
          (try clear ho0)
          refine hK.out _ _ ⟨(blk_cell BK165.out 0).trans rfl, (blk_cell BK165.out 1).trans rfl, (blk_cell BK156.out 0).trans rfl, (blk_cell BK156.out 1).trans rfl⟩ (fun hHeld => ?_)
          clear hK K
          refine norm_ (a' := ?_) ?_ ?_
          rotate_left
          ·show Act.put _ (some 53) _ = _
           simp only [Act.put, List.setIfInBounds_toArray, List.set_cons_zero, List.set_cons_succ, i64_w, i32_w]
           rfl
          refine one_ (i := 6) (N := some 55) #[true, true, true, true, true, true, true, false, false, false, false, false, false, false, false, false, false] rfl rfl (one_of HT_.out q_10) q_22 (fun K hK => ?_)
          refine goes_ Try.func31 q_10 rfl #[.agg #[.int .i64 a0_0, .slice A0_1 l0_1.length c0_1]] (by rfl) rfl rfl q_4 ?_
          with_reducible refine (batonlaw31_keys.calls kj4 a0_0 _ _ l0_1 t169 _ ?side1 ?side2 A24.out).mono ?_
          (case side1 => repeat (first | exact (Kd.C_below HR0_1.out HB.out) | (with_reducible refine Kd.C_alloc ?_ _) | (with_reducible refine Kd.C_drewN ?_ _) | (with_reducible refine Kd.C_drew ?_)))
          (case side2 => exact HC0_1.out)
          rintro e w41 ⟨v170, rfl, ho0, hb⟩
          refine ⟨_, rfl, ?_⟩
          have n0_ := Aside0.mk (Kd.V_elder' q_6 (Kd.R_base ho0) hb)
          have n1_ := Aside0.mk (Kd.R_elder' (by (with_reducible repeat (first | apply Kd.R_alloc | apply Kd.R_drewN | apply Kd.R_drew)); exact HO168.out) (Kd.R_base ho0) hb)
          have n2_ := Aside0.mk (Kd.R_lower (Kd.R_new' ho0 (Kd.R_lt (by (with_reducible repeat (first | apply Kd.R_alloc | apply Kd.R_drewN | apply Kd.R_drew)); exact HO168.out))) (below_size q_2))
          have n3_ := Aside0.mk (blk_below (g := gb156) (o := .cells #[.int .i64 a0_0, .slice A0_1 l0_1.length c0_1] 47 (0, 0)) q_3 hb)
          have n4_ := Aside0.mk (blk_below (g := gb165) (o := .cells #[.int .i64 t160, .slice Ao36 t161.length co36] 47 (0, 0)) q_5 hb)
          have n5_ := Aside0.mk (below_step q_2 hb)
          clear HO163
          clear HO168
          clear BK156
          clear BK165
          clear HB
          have HO163 := n0_
          have HO168 := n1_
          have HO171 := n2_
          have BK156 := n3_
          have BK165 := n4_
          have HB := n5_
          clear n0_ n1_ n2_ n3_ n4_ n5_
          (try clear hb)
          (try clear hb2)
          (try clear hk)
          (try clear hi)
          (try clear ho0)
          obtain ⟨Ao42, co42, eo42⟩ := Kd.R_slice HO168.out
          (first | subst eo42 | (injection eo42 with f1_ f2_ f3_; have f4_ := f1_.symm; have f5_ := f3_.symm; clear f1_ f2_ f3_; subst f4_; subst f5_))
          obtain ⟨Ao43, co43, eo43⟩ := Kd.R_slice HO171.out
          (first | subst eo43 | (injection eo43 with f1_ f2_ f3_; have f4_ := f1_.symm; have f5_ := f3_.symm; clear f1_ f2_ f3_; subst f4_; subst f5_))
          refine hK.out _ _ ⟨(blk_cell BK165.out 0).trans rfl, (blk_cell BK165.out 1).trans rfl, (blk_cell BK156.out 0).trans rfl, (blk_cell BK156.out 1).trans rfl⟩ (fun hHeld => ?_)
          clear hK K
          refine norm_ (a' := ?_) ?_ ?_
          rotate_left
          ·show Act.put _ (some 55) _ = _
           simp only [Act.put, List.setIfInBounds_toArray, List.set_cons_zero, List.set_cons_succ, i64_w, i32_w]
           rfl
          refine one_ (i := 7) (N := some 56) #[true, true, true, true, true, true, true, true, false, false, false, false, false, false, false, false, false] rfl rfl (one_of HT_.out q_10) q_22 (fun K hK => ?_)
          refine goes_ Try.func30 q_10 rfl #[.slice Ao42 t166.length co42, .slice Ao43 t169.length co43] (by rfl) rfl rfl q_4 ?_
          with_reducible refine (batonref31_Same.calls kj4 _ _ t166 _ _ t169 true _ ?side1 ?side2 ?side3 ?side4 A25.out).mono ?_
          (case side1 => repeat (first | exact (Kd.R_reads' HO168.out).2.2 | (with_reducible refine Kd.C_alloc ?_ _) | (with_reducible refine Kd.C_drewN ?_ _) | (with_reducible refine Kd.C_drew ?_)))
          (case side2 => exact (Kd.R_reads' HO168.out).2.1)
          (case side3 => repeat (first | exact (Kd.R_reads' HO171.out).2.2 | (with_reducible refine Kd.C_alloc ?_ _) | (with_reducible refine Kd.C_drewN ?_ _) | (with_reducible refine Kd.C_drew ?_)))
          (case side4 => exact (Kd.R_reads' HO171.out).2.1)
          rintro e w' ⟨rfl, ⟨nd, rfl⟩⟩
          refine ⟨_, rfl, ?_⟩
          refine hK.out _ _ ⟨(blk_cell BK165.out 0).trans rfl, (blk_cell BK165.out 1).trans rfl, (blk_cell BK156.out 0).trans rfl, (blk_cell BK156.out 1).trans rfl⟩ (fun hHeld => ?_)
          clear hK K
          refine norm_ (a' := ?_) ?_ ?_
          rotate_left
          ·show Act.put _ (some 56) _ = _
           simp only [Act.put, List.setIfInBounds_toArray, List.set_cons_zero, List.set_cons_succ, i64_w, i32_w]
           rfl
          refine pure_ (i := 8) (N := some 57) (v := ?_) (a' := ?_) #[true, true, true, true, true, true, true, true, true, false, false, false, false, false, false, false, false] rfl rfl (any_of HT_.out q_10) (fun _ _ _ h => h) (Or.inl ⟨by rfl, ?_⟩) ?_ ?_
          rotate_left
          ·intro w'
           go_simp
           with_reducible rfl
          rotate_left
          ·simp only [Act.put, List.setIfInBounds_toArray, List.set_cons_zero, List.set_cons_succ, i64_w, i32_w]
           rfl
          refine pure_ (i := 9) (N := some 58) (v := ?_) (a' := ?_) #[true, true, true, true, true, true, true, true, true, true, false, false, false, false, false, false, false] rfl rfl (any_of HT_.out q_10) (fun _ _ _ h => h) (Or.inl ⟨by rfl, ?_⟩) ?_ ?_
          rotate_left
          ·intro w'
           go_simp
           with_reducible rfl
          rotate_left
          ·simp only [Act.put, List.setIfInBounds_toArray, List.set_cons_zero, List.set_cons_succ, i64_w, i32_w]
           rfl
          refine pure_ (i := 10) (N := some 59) (v := ?_) (a' := ?_) #[true, true, true, true, true, true, true, true, true, true, true, false, false, false, false, false, false] rfl rfl (any_of HT_.out q_10) (fun _ _ _ h => h) (Or.inl ⟨by rfl, ?_⟩) ?_ ?_
          rotate_left
          ·intro w'
           go_simp
           with_reducible rfl
          rotate_left
          ·simp only [Act.put, List.setIfInBounds_toArray, List.set_cons_zero, List.set_cons_succ, i64_w, i32_w]
           rfl
          refine pure_ (i := 12) (N := some 61) (v := ?_) (a' := ?_) #[true, true, true, true, true, true, true, true, true, true, true, false, true, false, false, false, false] rfl rfl (any_of HT_.out q_10) (fun _ _ _ h => h) (Or.inl ⟨by rfl, ?_⟩) ?_ ?_
          rotate_left
          ·intro w'
           go_simp
           with_reducible rfl
          rotate_left
          ·simp only [Act.put, List.setIfInBounds_toArray, List.set_cons_zero, List.set_cons_succ, i64_w, i32_w]
           rfl
          refine take_ (i := 11) (N := some 60) (v := ?_) (a' := ?_) #[true, true, true, true, true, true, true, true, true, true, true, true, true, false, false, false, false] rfl rfl (take_ofW HT_.out HW_.out q_10) (fun _ _ _ h => h) (Or.inl ⟨by rfl, ?_⟩) hHeld ?_ ?_
          rotate_left
          ·rintro w' ⟨s0, s1, s2, s3⟩
           go_simp
           with_reducible rfl
          rotate_left
          ·simp only [Act.put, List.setIfInBounds_toArray, List.set_cons_zero, List.set_cons_succ, i64_w, i32_w]
           rfl
          refine take_ (i := 13) (N := some 62) (v := ?_) (a' := ?_) #[true, true, true, true, true, true, true, true, true, true, true, true, true, true, false, false, false] rfl rfl (take_ofW HT_.out HW_.out q_10) (fun _ _ _ h => h) (Or.inl ⟨by rfl, ?_⟩) hHeld ?_ ?_
          rotate_left
          ·rintro w' ⟨s0, s1, s2, s3⟩
           go_simp
           with_reducible rfl
          rotate_left
          ·simp only [Act.put, List.setIfInBounds_toArray, List.set_cons_zero, List.set_cons_succ, i64_w, i32_w]
           rfl
          refine pure_ (i := 14) (N := some 63) (v := ?_) (a' := ?_) #[true, true, true, true, true, true, true, true, true, true, true, true, true, true, true, false, false] rfl rfl (any_of HT_.out q_10) (fun _ _ _ h => h) (Or.inl ⟨by rfl, ?_⟩) ?_ ?_
          rotate_left
          ·intro w'
           go_simp
           with_reducible rfl
          rotate_left
          ·simp only [Act.put, List.setIfInBounds_toArray, List.set_cons_zero, List.set_cons_succ, i64_w, i32_w]
           rfl
          refine pure_ (i := 15) (N := some 64) (v := ?_) (a' := ?_) #[true, true, true, true, true, true, true, true, true, true, true, true, true, true, true, true, false] rfl rfl (any_of HT_.out q_10) (fun _ _ _ h => h) (Or.inl ⟨by rfl, ?_⟩) ?_ ?_
          rotate_left
          ·intro w'
           go_simp
           with_reducible rfl
          rotate_left
          ·simp only [Act.put, List.setIfInBounds_toArray, List.set_cons_zero, List.set_cons_succ, i64_w, i32_w]
           rfl
          refine pure_ (i := 16) (N := some 4) (v := ?_) (a' := ?_) #[true, true, true, true, true, true, true, true, true, true, true, true, true, true, true, true, true] rfl rfl (any_of HT_.out q_10) (fun _ _ _ h => h) (Or.inl ⟨by rfl, ?_⟩) ?_ ?_
          rotate_left
          ·intro w'
           go_simp
           with_reducible rfl
          rotate_left
          ·simp only [Act.put, List.setIfInBounds_toArray, List.set_cons_zero, List.set_cons_succ, i64_w, i32_w]
           rfl
          refine done_ (done_of HT_.out q_10) ?_
          try go_wp2
          go_ret
          exact ⟨by first | rfl | (simp [errW_none, errW_some] <;> rfl) | (simp [*, errW_none, errW_some] <;> rfl), by repeat (first | (with_reducible first | exact HB.out | apply below_alloc | apply pw_below_drewN | apply below_drew1 | refine below_set ?_ GE156.out | refine below_set ?_ GE165.out) | exact HB.out)⟩
         ·replace c26 := Bool.eq_false_iff.mpr c26
          subst c26
          have H1 : (some false) = some r := by rw [if_neg (show ¬ (false = true) by decide)] at H; exact H
          clear H
          have H := H1
          clear H1
          obtain rfl := Option.some.inj H
          have hcz44_0 : wc.cell? ⟨gb156, 0, none⟩ = some (.int .i64 a0_0) := (blk_cell BK156.out 0).trans rfl
          have hcz44_1 : wc.cell? ⟨gb156, 1, none⟩ = some (.slice A0_1 l0_1.length c0_1) := (blk_cell BK156.out 1).trans rfl
          have hfz44_0 := blk_frozen BK156.out 0
          have hfz44_1 := blk_frozen BK156.out 1
          try go_wp2_with (first | ((with_reducible refine gate_callee (f := 28) rfl ?_); refine goesL_ (some 22) rfl rfl Try.func28 q_10 rfl #[.agg #[.int .i64 a0_0, .slice A0_1 l0_1.length c0_1]] rfl q_4 ?_; (with_reducible refine (batonlaw31_right.calls a0_0 _ _ l0_1 true _ ?side1 ?side2 A12.out).mono ?_); (case side1 => repeat (first | exact (Kd.C_below HR0_1.out HB.out) | (with_reducible refine Kd.C_alloc ?_ _) | (with_reducible refine Kd.C_drewN ?_ _) | (with_reducible refine Kd.C_drew ?_))); (case side2 => exact HC0_1.out); rintro e w45 ⟨rfl, hb⟩; refine ⟨_, rfl, ?_⟩; have n0_ := Aside0.mk (blk_below (g := gb156) (o := .cells #[.int .i64 a0_0, .slice A0_1 l0_1.length c0_1] 47 (0, 0)) q_3 hb); have n1_ := Aside0.mk (below_step q_1 hb); clear BK156; clear HB; have BK156 := n0_; have HB := n1_; clear n0_ n1_; (try clear hb); (try clear hb2); (try clear hk); (try clear hi); have hcz46_0 : w45.cell? ⟨gb156, 0, none⟩ = some (.int .i64 a0_0) := (blk_cell BK156.out 0).trans rfl; have hcz46_1 : w45.cell? ⟨gb156, 1, none⟩ = some (.slice A0_1 l0_1.length c0_1) := (blk_cell BK156.out 1).trans rfl; have hfz46_0 := blk_frozen BK156.out 0; have hfz46_1 := blk_frozen BK156.out 1) | ((with_reducible refine gate_callee (f := 29) rfl ?_); refine goesL_ (some 24) rfl rfl Try.func29 q_10 rfl #[.agg #[.int .i64 a0_0, .slice A0_1 l0_1.length c0_1]] rfl q_4 ?_; (with_reducible refine (outbox_Right.calls a0_0 _ _ l0_1 t159 _ ?side1 ?side2 A13.out).mono ?_); (case side1 => repeat (first | exact (Kd.C_below HR0_1.out HB.out) | (with_reducible refine Kd.C_alloc ?_ _) | (with_reducible refine Kd.C_drewN ?_ _) | (with_reducible refine Kd.C_drew ?_))); (case side2 => exact HC0_1.out); rintro e w47 ⟨rfl, hb⟩; refine ⟨_, rfl, ?_⟩; have n0_ := Aside0.mk (blk_below (g := gb156) (o := .cells #[.int .i64 a0_0, .slice A0_1 l0_1.length c0_1] 47 (0, 0)) q_3 hb); have n1_ := Aside0.mk (below_step q_1 hb); clear BK156; clear HB; have BK156 := n0_; have HB := n1_; clear n0_ n1_; (try clear hb); (try clear hb2); (try clear hk); (try clear hi); have hcz48_0 : w47.cell? ⟨gb156, 0, none⟩ = some (.int .i64 a0_0) := (blk_cell BK156.out 0).trans rfl; have hcz48_1 : w47.cell? ⟨gb156, 1, none⟩ = some (.slice A0_1 l0_1.length c0_1) := (blk_cell BK156.out 1).trans rfl; have hfz48_0 := blk_frozen BK156.out 0; have hfz48_1 := blk_frozen BK156.out 1) | ((with_reducible refine gate_callee (f := 27) rfl ?_); refine goesL_ (some 38) rfl rfl Try.func27 q_10 rfl #[.agg #[.int .i64 a0_0, .slice A0_1 l0_1.length c0_1], .slice A1 l1.length c1] rfl q_4 ?_; (with_reducible refine (outbox_Put.calls kj4 a0_0 (fun k_ => k_ < w.heap.size) _ _ l0_1 (fun k_ => k_ < w.heap.size) _ _ l1 t160 t161 t164 _ ?side1 ?side2 A20.out).mono ?_); (case side1 => exact Kd.V_mk HC0_1.out (Kd.F_below (Kd.C_F (Kd.heap_int .u8) HR0_1.out) q_1)); (case side2 => exact Kd.V_mk HC1.out (Kd.F_below (Kd.C_F (Kd.heap_int .u8) HR1.out) q_1)); rintro e w49 ⟨v162, rfl, ho0, hb⟩; refine ⟨_, rfl, ?_⟩; have n0_ := Aside0.mk (Kd.V_lower (Kd.V_mono (ok' := fun k_ => k_ ≠ gb156) ho0 (fun k_ hk_ => Or.elim hk_ (fun hs_ => Or.elim hs_ (fun hs_ => fun e_ => Nat.not_le.2 hs_ q_21) (fun hs_ => fun e_ => Nat.not_le.2 hs_ q_21)) (fun hn_ => (Kd.freshB (g := gb156) (o := .cells #[.int .i64 a0_0, .slice A0_1 l0_1.length c0_1] 47 (0, 0)) q_3 k_ hn_)))) (below_size q_1)); have n1_ := Aside0.mk (blk_below (g := gb156) (o := .cells #[.int .i64 a0_0, .slice A0_1 l0_1.length c0_1] 47 (0, 0)) q_3 hb); have n2_ := Aside0.mk (below_step q_1 hb); clear BK156; clear HB; have HO163 := n0_; have BK156 := n1_; have HB := n2_; clear n0_ n1_ n2_; (try clear hb); (try clear hb2); (try clear hk); (try clear hi); (try clear ho0)) | ((with_reducible refine gate_dst (N := 7) rfl ?_); (try (refine gate_guard (by rfl) ?_; dsimp only)); refine box_event ?hg (N := 7) ?hd (cs := #[.int .i64 0, .slice none 0 0]) (t := 47) ?hr ?_; (case hd => rfl); (case hg => rfl); (case hr => first | (go_simp; done) | (go_simp; rfl)); intro gb165 hg w50 hbox hb; have n0_ := Aside0.mk (Kd.V_below (Kd.V_elderB q_6 gb165 (Nat.le_of_eq hg.symm)) hb); have n1_ := Aside0.mk (blk_below (g := gb156) (o := .cells #[.int .i64 a0_0, .slice A0_1 l0_1.length c0_1] 47 (0, 0)) q_3 hb); have n2_ := Aside0.mk (below_step q_1 hb); have n3_ := Aside0.mk (hbox); have n4_ := Aside0.mk ((by rw [hg]; exact (below_size q_1) : w.heap.size <= gb165)); have n5_ := Aside0.mk ((by rw [hg]; exact (below_size q_1) : w.heap.size <= gb165)); have n6_ := Aside0.mk ((by rw [hg]; exact Nat.ne_of_lt (blk_lt (g := gb156) (o := .cells #[.int .i64 a0_0, .slice A0_1 l0_1.length c0_1] 47 (0, 0)) q_3) : gb156 ≠ gb165)); have n7_ := Aside0.mk ((by rw [hg]; exact Nat.ne_of_gt (blk_lt (g := gb156) (o := .cells #[.int .i64 a0_0, .slice A0_1 l0_1.length c0_1] 47 (0, 0)) q_3) : gb165 ≠ gb156)); clear HO163; clear BK156; clear HB; have HO163 := n0_; have BK156 := n1_; have HB := n2_; have BK165 := n3_; have GW165 := n4_; have GE165 := n5_; have NB156_165 := n6_; have NB165_156 := n7_; clear n0_ n1_ n2_ n3_ n4_ n5_ n6_ n7_; clear hb hbox hg; have hnb51 := NB165_156.out; have hnc51 := NB156_165.out; have hcz52_0 : w50.cell? ⟨gb165, 0, none⟩ = some (.int .i64 0) := (blk_cell BK165.out 0).trans rfl; have hcz52_1 : w50.cell? ⟨gb165, 1, none⟩ = some (.slice none 0 0) := (blk_cell BK165.out 1).trans rfl; have hfz52_0 := blk_frozen BK165.out 0; have hfz52_1 := blk_frozen BK165.out 1; obtain ⟨Ao53, co53, eo53⟩ := Kd.V_slice HO163.out; subst eo53; have hcz54_0 : w50.cell? ⟨gb156, 0, none⟩ = some (.int .i64 a0_0) := (blk_cell BK156.out 0).trans rfl; have hcz54_1 : w50.cell? ⟨gb156, 1, none⟩ = some (.slice A0_1 l0_1.length c0_1) := (blk_cell BK156.out 1).trans rfl; have hfz54_0 := blk_frozen BK156.out 0; have hfz54_1 := blk_frozen BK156.out 1))
          have n0_ : Aside0 (Kd.V (Kd.int .u8) 5 ((w50.setCell ⟨gb165, 0, none⟩ (.int .i64 t160)).setCell ⟨gb165, 1, none⟩ (.slice Ao53 t161.length co53)) w.heap.size (fun k_ => k_ ≠ gb156 /\ k_ ≠ gb165) (.slice Ao53 t161.length co53) t161) := ⟨by (with_reducible repeat (first | apply Kd.V_alloc | apply Kd.V_drewN | apply Kd.V_drew)); exact Kd.V_mono (Kd.V_far (p := ⟨gb165, 1, none⟩) (Kd.V_far (p := ⟨gb165, 0, none⟩) (Kd.V_mono HO163.out (fun k_ hk => (⟨hk, hk.2⟩ : _ /\ k_ ≠ gb165))) (fun _ hk => hk.2) (.int .i64 t160)) (fun _ hk => hk.2) (.slice Ao53 t161.length co53)) (fun _ hk => ⟨hk.1.1, hk.1.2⟩)⟩
          have n1_ : Aside0 (((w50.setCell ⟨gb165, 0, none⟩ (.int .i64 t160)).setCell ⟨gb165, 1, none⟩ (.slice Ao53 t161.length co53)).heap[gb156]? = some (.cells #[.int .i64 a0_0, .slice A0_1 l0_1.length c0_1] 47 (0, 0))) := ⟨by (with_reducible repeat (first | refine blk_drewN ?_ _ | refine blk_drew ?_ | refine blk_alloc ?_ _)); refine blk_far ?_ NB156_165.out _; (with_reducible repeat (first | refine blk_drewN ?_ _ | refine blk_drew ?_ | refine blk_alloc ?_ _)); refine blk_far ?_ NB156_165.out _; (with_reducible repeat (first | refine blk_drewN ?_ _ | refine blk_drew ?_ | refine blk_alloc ?_ _)); exact BK156.out⟩
          have n2_ : Aside0 (((w50.setCell ⟨gb165, 0, none⟩ (.int .i64 t160)).setCell ⟨gb165, 1, none⟩ (.slice Ao53 t161.length co53)).heap[gb165]? = some (.cells #[.int .i64 t160, .slice Ao53 t161.length co53] 47 (0, 0))) := ⟨by (with_reducible repeat (first | refine blk_drewN ?_ _ | refine blk_drew ?_ | refine blk_alloc ?_ _)); refine blk_put (cs := #[.int .i64 t160, .slice none 0 0]) ?_ 1 _ rfl; (with_reducible repeat (first | refine blk_drewN ?_ _ | refine blk_drew ?_ | refine blk_alloc ?_ _)); refine blk_put (cs := #[.int .i64 0, .slice none 0 0]) ?_ 0 _ rfl; (with_reducible repeat (first | refine blk_drewN ?_ _ | refine blk_drew ?_ | refine blk_alloc ?_ _)); exact BK165.out⟩
          have n3_ : Aside0 (Below w.heap.size w ((w50.setCell ⟨gb165, 0, none⟩ (.int .i64 t160)).setCell ⟨gb165, 1, none⟩ (.slice Ao53 t161.length co53))) := ⟨by repeat (first | (with_reducible first | exact HB.out | apply below_alloc | apply pw_below_drewN | apply below_drew1 | refine below_set ?_ GE156.out | refine below_set ?_ GE165.out) | exact HB.out)⟩
          (try clear HO163)
          (try clear BK156)
          (try clear BK165)
          (try clear HB)
          generalize ((w50.setCell ⟨gb165, 0, none⟩ (.int .i64 t160)).setCell ⟨gb165, 1, none⟩ (.slice Ao53 t161.length co53)) = w55 at n0_ n1_ n2_ n3_ ⊢
          have HO163 := n0_
          have BK156 := n1_
          have BK165 := n2_
          have HB := n3_
          clear n0_ n1_ n2_ n3_
          have n0_ := Aside0.mk (Kd.V_drew HO163.out)
          have n1_ := Aside0.mk (blk_drew BK156.out)
          have n2_ := Aside0.mk (blk_drew BK165.out)
          have n3_ := Aside0.mk (below_drew1 HB.out)
          clear HO163
          clear BK156
          clear BK165
          clear HB
          have HO163 := n0_
          have BK156 := n1_
          have BK165 := n2_
          have HB := n3_
          clear n0_ n1_ n2_ n3_
          refine start_ (n := 17) (S := fun w' => w'.cell? ⟨gb165, 0, none⟩ = some (.int .i64 t160) /\ w'.cell? ⟨gb165, 1, none⟩ = some (.slice Ao53 t161.length co53) /\ w'.cell? ⟨gb156, 0, none⟩ = some (.int .i64 a0_0) /\ w'.cell? ⟨gb156, 1, none⟩ = some (.slice A0_1 l0_1.length c0_1)) (ds := []) #[false, false, false, false, false, false, false, false, false, false, false, false, false, false, false, false, false] q_10 rfl rfl ⟨(blk_cell BK165.out 0).trans rfl, (blk_cell BK165.out 1).trans rfl, (blk_cell BK156.out 0).trans rfl, (blk_cell BK156.out 1).trans rfl⟩ (fun hHeld => ?_); refine with_tabW batonlaw31_OutboxPuts.tab13 batonlaw31_OutboxPuts.bits13 (fun HT_ HW_ => ?_)
          generalize w55.drew = w56 at HO163 BK156 BK165 HB hHeld ⊢
          refine pure_ (i := 0) (N := some 49) (v := ?_) (a' := ?_) #[true, false, false, false, false, false, false, false, false, false, false, false, false, false, false, false, false] rfl rfl (any_of HT_.out q_10) (fun _ _ _ h => h) (Or.inl ⟨by rfl, ?_⟩) ?_ ?_
          rotate_left
          ·intro w'
           go_simp
           with_reducible rfl
          rotate_left
          ·simp only [Act.put, List.setIfInBounds_toArray, List.set_cons_zero, List.set_cons_succ, i64_w, i32_w]
           rfl
          refine pure_ (i := 1) (N := some 50) (v := ?_) (a' := ?_) #[true, true, false, false, false, false, false, false, false, false, false, false, false, false, false, false, false] rfl rfl (any_of HT_.out q_10) (fun _ _ _ h => h) (Or.inl ⟨by rfl, ?_⟩) ?_ ?_
          rotate_left
          ·intro w'
           go_simp
           with_reducible rfl
          rotate_left
          ·simp only [Act.put, List.setIfInBounds_toArray, List.set_cons_zero, List.set_cons_succ, i64_w, i32_w]
           rfl
          refine pure_ (i := 2) (N := some 51) (v := ?_) (a' := ?_) #[true, true, true, false, false, false, false, false, false, false, false, false, false, false, false, false, false] rfl rfl (any_of HT_.out q_10) (fun _ _ _ h => h) (Or.inl ⟨by rfl, ?_⟩) ?_ ?_
          rotate_left
          ·intro w'
           go_simp
           with_reducible rfl
          rotate_left
          ·simp only [Act.put, List.setIfInBounds_toArray, List.set_cons_zero, List.set_cons_succ, i64_w, i32_w]
           rfl
          refine take_ (i := 3) (N := some 52) (v := ?_) (a' := ?_) #[true, true, true, true, false, false, false, false, false, false, false, false, false, false, false, false, false] rfl rfl (take_ofW HT_.out HW_.out q_10) (fun _ _ _ h => h) (Or.inl ⟨by rfl, ?_⟩) hHeld ?_ ?_
          rotate_left
          ·rintro w' ⟨s0, s1, s2, s3⟩
           go_simp
           with_reducible rfl
          rotate_left
          ·simp only [Act.put, List.setIfInBounds_toArray, List.set_cons_zero, List.set_cons_succ, i64_w, i32_w]
           rfl
          refine take_ (i := 5) (N := some 54) (v := ?_) (a' := ?_) #[true, true, true, true, false, true, false, false, false, false, false, false, false, false, false, false, false] rfl rfl (take_ofW HT_.out HW_.out q_10) (fun _ _ _ h => h) (Or.inl ⟨by rfl, ?_⟩) hHeld ?_ ?_
          rotate_left
          ·rintro w' ⟨s0, s1, s2, s3⟩
           go_simp
           with_reducible rfl
          rotate_left
          ·simp only [Act.put, List.setIfInBounds_toArray, List.set_cons_zero, List.set_cons_succ, i64_w, i32_w]
           rfl
          refine one_ (i := 4) (N := some 53) #[true, true, true, true, true, true, false, false, false, false, false, false, false, false, false, false, false] rfl rfl (one_of HT_.out q_10) q_22 (fun K hK => ?_)
          refine goes_ Try.func31 q_10 rfl #[.agg #[.int .i64 t160, .slice Ao53 t161.length co53]] (by rfl) rfl rfl q_4 ?_
          with_reducible refine (batonlaw31_keys.calls kj4 t160 _ _ t161 t166 _ ?side1 ?side2 A23.out).mono ?_
          (case side1 => repeat (first | exact (Kd.V_reads' HO163.out).2.2 | (with_reducible refine Kd.C_alloc ?_ _) | (with_reducible refine Kd.C_drewN ?_ _) | (with_reducible refine Kd.C_drew ?_)))
          (case side2 => exact (Kd.V_reads' HO163.out).2.1)
          rintro e w57 ⟨v167, rfl, ho0, hb⟩
          refine ⟨_, rfl, ?_⟩
          have n0_ := Aside0.mk (Kd.V_elder' q_6 (Kd.R_base ho0) hb)
          have n1_ := Aside0.mk (Kd.R_lower ho0 (below_size q_2))
          have n2_ := Aside0.mk (blk_below (g := gb156) (o := .cells #[.int .i64 a0_0, .slice A0_1 l0_1.length c0_1] 47 (0, 0)) q_3 hb)
          have n3_ := Aside0.mk (blk_below (g := gb165) (o := .cells #[.int .i64 t160, .slice Ao53 t161.length co53] 47 (0, 0)) q_5 hb)
          have n4_ := Aside0.mk (below_step q_2 hb)
          clear HO163
          clear BK156
          clear BK165
          clear HB
          have HO163 := n0_
          have HO168 := n1_
          have BK156 := n2_
          have BK165 := n3_
          have HB := n4_
          clear n0_ n1_ n2_ n3_ n4_
          (try clear hb)
          (try clear hb2)
          (try clear hk)
          (try clear hi)
          (try clear ho0)
          refine hK.out _ _ ⟨(blk_cell BK165.out 0).trans rfl, (blk_cell BK165.out 1).trans rfl, (blk_cell BK156.out 0).trans rfl, (blk_cell BK156.out 1).trans rfl⟩ (fun hHeld => ?_)
          clear hK K
          refine norm_ (a' := ?_) ?_ ?_
          rotate_left
          ·show Act.put _ (some 53) _ = _
           simp only [Act.put, List.setIfInBounds_toArray, List.set_cons_zero, List.set_cons_succ, i64_w, i32_w]
           rfl
          refine one_ (i := 6) (N := some 55) #[true, true, true, true, true, true, true, false, false, false, false, false, false, false, false, false, false] rfl rfl (one_of HT_.out q_10) q_22 (fun K hK => ?_)
          refine goes_ Try.func31 q_10 rfl #[.agg #[.int .i64 a0_0, .slice A0_1 l0_1.length c0_1]] (by rfl) rfl rfl q_4 ?_
          with_reducible refine (batonlaw31_keys.calls kj4 a0_0 _ _ l0_1 t169 _ ?side1 ?side2 A24.out).mono ?_
          (case side1 => repeat (first | exact (Kd.C_below HR0_1.out HB.out) | (with_reducible refine Kd.C_alloc ?_ _) | (with_reducible refine Kd.C_drewN ?_ _) | (with_reducible refine Kd.C_drew ?_)))
          (case side2 => exact HC0_1.out)
          rintro e w58 ⟨v170, rfl, ho0, hb⟩
          refine ⟨_, rfl, ?_⟩
          have n0_ := Aside0.mk (Kd.V_elder' q_6 (Kd.R_base ho0) hb)
          have n1_ := Aside0.mk (Kd.R_elder' (by (with_reducible repeat (first | apply Kd.R_alloc | apply Kd.R_drewN | apply Kd.R_drew)); exact HO168.out) (Kd.R_base ho0) hb)
          have n2_ := Aside0.mk (Kd.R_lower (Kd.R_new' ho0 (Kd.R_lt (by (with_reducible repeat (first | apply Kd.R_alloc | apply Kd.R_drewN | apply Kd.R_drew)); exact HO168.out))) (below_size q_2))
          have n3_ := Aside0.mk (blk_below (g := gb156) (o := .cells #[.int .i64 a0_0, .slice A0_1 l0_1.length c0_1] 47 (0, 0)) q_3 hb)
          have n4_ := Aside0.mk (blk_below (g := gb165) (o := .cells #[.int .i64 t160, .slice Ao53 t161.length co53] 47 (0, 0)) q_5 hb)
          have n5_ := Aside0.mk (below_step q_2 hb)
          clear HO163
          clear HO168
          clear BK156
          clear BK165
          clear HB
          have HO163 := n0_
          have HO168 := n1_
          have HO171 := n2_
          have BK156 := n3_
          have BK165 := n4_
          have HB := n5_
          clear n0_ n1_ n2_ n3_ n4_ n5_
          (try clear hb)
          (try clear hb2)
          (try clear hk)
          (try clear hi)
          (try clear ho0)
          obtain ⟨Ao59, co59, eo59⟩ := Kd.R_slice HO168.out
          (first | subst eo59 | (injection eo59 with f1_ f2_ f3_; have f4_ := f1_.symm; have f5_ := f3_.symm; clear f1_ f2_ f3_; subst f4_; subst f5_))
          obtain ⟨Ao60, co60, eo60⟩ := Kd.R_slice HO171.out
          (first | subst eo60 | (injection eo60 with f1_ f2_ f3_; have f4_ := f1_.symm; have f5_ := f3_.symm; clear f1_ f2_ f3_; subst f4_; subst f5_))
          refine hK.out _ _ ⟨(blk_cell BK165.out 0).trans rfl, (blk_cell BK165.out 1).trans rfl, (blk_cell BK156.out 0).trans rfl, (blk_cell BK156.out 1).trans rfl⟩ (fun hHeld => ?_)
          clear hK K
          refine norm_ (a' := ?_) ?_ ?_
          rotate_left
          ·show Act.put _ (some 55) _ = _
           simp only [Act.put, List.setIfInBounds_toArray, List.set_cons_zero, List.set_cons_succ, i64_w, i32_w]
           rfl
          refine one_ (i := 7) (N := some 56) #[true, true, true, true, true, true, true, true, false, false, false, false, false, false, false, false, false] rfl rfl (one_of HT_.out q_10) q_22 (fun K hK => ?_)
          refine goes_ Try.func30 q_10 rfl #[.slice Ao59 t166.length co59, .slice Ao60 t169.length co60] (by rfl) rfl rfl q_4 ?_
          with_reducible refine (batonref31_Same.calls kj4 _ _ t166 _ _ t169 false _ ?side1 ?side2 ?side3 ?side4 A25.out).mono ?_
          (case side1 => repeat (first | exact (Kd.R_reads' HO168.out).2.2 | (with_reducible refine Kd.C_alloc ?_ _) | (with_reducible refine Kd.C_drewN ?_ _) | (with_reducible refine Kd.C_drew ?_)))
          (case side2 => exact (Kd.R_reads' HO168.out).2.1)
          (case side3 => repeat (first | exact (Kd.R_reads' HO171.out).2.2 | (with_reducible refine Kd.C_alloc ?_ _) | (with_reducible refine Kd.C_drewN ?_ _) | (with_reducible refine Kd.C_drew ?_)))
          (case side4 => exact (Kd.R_reads' HO171.out).2.1)
          rintro e w' ⟨rfl, ⟨nd, rfl⟩⟩
          refine ⟨_, rfl, ?_⟩
          refine hK.out _ _ ⟨(blk_cell BK165.out 0).trans rfl, (blk_cell BK165.out 1).trans rfl, (blk_cell BK156.out 0).trans rfl, (blk_cell BK156.out 1).trans rfl⟩ (fun hHeld => ?_)
          clear hK K
          refine norm_ (a' := ?_) ?_ ?_
          rotate_left
          ·show Act.put _ (some 56) _ = _
           simp only [Act.put, List.setIfInBounds_toArray, List.set_cons_zero, List.set_cons_succ, i64_w, i32_w]
           rfl
          refine pure_ (i := 8) (N := some 57) (v := ?_) (a' := ?_) #[true, true, true, true, true, true, true, true, true, false, false, false, false, false, false, false, false] rfl rfl (any_of HT_.out q_10) (fun _ _ _ h => h) (Or.inl ⟨by rfl, ?_⟩) ?_ ?_
          rotate_left
          ·intro w'
           go_simp
           with_reducible rfl
          rotate_left
          ·simp only [Act.put, List.setIfInBounds_toArray, List.set_cons_zero, List.set_cons_succ, i64_w, i32_w]
           rfl
          refine pure_ (i := 9) (N := some 58) (v := ?_) (a' := ?_) #[true, true, true, true, true, true, true, true, true, true, false, false, false, false, false, false, false] rfl rfl (any_of HT_.out q_10) (fun _ _ _ h => h) (Or.inl ⟨by rfl, ?_⟩) ?_ ?_
          rotate_left
          ·intro w'
           go_simp
           with_reducible rfl
          rotate_left
          ·simp only [Act.put, List.setIfInBounds_toArray, List.set_cons_zero, List.set_cons_succ, i64_w, i32_w]
           rfl
          refine pure_ (i := 10) (N := some 59) (v := undef) (a' := ?_) #[true, true, true, true, true, true, true, true, true, true, true, false, false, false, false, false, false] rfl rfl (any_of HT_.out q_10) (fun _ _ _ h => h) (Or.inr ⟨by rfl, rfl⟩) ?_ ?_
          rotate_left
          ·simp only [Act.put, List.setIfInBounds_toArray, List.set_cons_zero, List.set_cons_succ, i64_w, i32_w]
           rfl
          refine pure_ (i := 11) (N := some 60) (v := undef) (a' := ?_) #[true, true, true, true, true, true, true, true, true, true, true, true, false, false, false, false, false] rfl rfl (any_of HT_.out q_10) (fun _ _ _ h => h) (Or.inr ⟨by rfl, rfl⟩) ?_ ?_
          rotate_left
          ·simp only [Act.put, List.setIfInBounds_toArray, List.set_cons_zero, List.set_cons_succ, i64_w, i32_w]
           rfl
          refine pure_ (i := 12) (N := some 61) (v := undef) (a' := ?_) #[true, true, true, true, true, true, true, true, true, true, true, true, true, false, false, false, false] rfl rfl (any_of HT_.out q_10) (fun _ _ _ h => h) (Or.inr ⟨by rfl, rfl⟩) ?_ ?_
          rotate_left
          ·simp only [Act.put, List.setIfInBounds_toArray, List.set_cons_zero, List.set_cons_succ, i64_w, i32_w]
           rfl
          refine pure_ (i := 13) (N := some 62) (v := undef) (a' := ?_) #[true, true, true, true, true, true, true, true, true, true, true, true, true, true, false, false, false] rfl rfl (any_of HT_.out q_10) (fun _ _ _ h => h) (Or.inr ⟨by rfl, rfl⟩) ?_ ?_
          rotate_left
          ·simp only [Act.put, List.setIfInBounds_toArray, List.set_cons_zero, List.set_cons_succ, i64_w, i32_w]
           rfl
          refine pure_ (i := 14) (N := some 63) (v := undef) (a' := ?_) #[true, true, true, true, true, true, true, true, true, true, true, true, true, true, true, false, false] rfl rfl (any_of HT_.out q_10) (fun _ _ _ h => h) (Or.inr ⟨by rfl, rfl⟩) ?_ ?_
          rotate_left
          ·simp only [Act.put, List.setIfInBounds_toArray, List.set_cons_zero, List.set_cons_succ, i64_w, i32_w]
           rfl
          refine pure_ (i := 15) (N := some 64) (v := ?_) (a' := ?_) #[true, true, true, true, true, true, true, true, true, true, true, true, true, true, true, true, false] rfl rfl (any_of HT_.out q_10) (fun _ _ _ h => h) (Or.inl ⟨by rfl, ?_⟩) ?_ ?_
          rotate_left
          ·intro w'
           go_simp
           with_reducible rfl
          rotate_left
          ·simp only [Act.put, List.setIfInBounds_toArray, List.set_cons_zero, List.set_cons_succ, i64_w, i32_w]
           rfl
          refine pure_ (i := 16) (N := some 4) (v := ?_) (a' := ?_) #[true, true, true, true, true, true, true, true, true, true, true, true, true, true, true, true, true] rfl rfl (any_of HT_.out q_10) (fun _ _ _ h => h) (Or.inl ⟨by rfl, ?_⟩) ?_ ?_
          rotate_left
          ·intro w'
           go_simp
           with_reducible rfl
          rotate_left
          ·simp only [Act.put, List.setIfInBounds_toArray, List.set_cons_zero, List.set_cons_succ, i64_w, i32_w]
           rfl
          refine done_ (done_of HT_.out q_10) ?_
          try go_wp2
          go_ret
          exact ⟨by first | rfl | (simp [errW_none, errW_some] <;> rfl) | (simp [*, errW_none, errW_some] <;> rfl), by repeat (first | (with_reducible first | exact HB.out | apply below_alloc | apply pw_below_drewN | apply below_drew1 | refine below_set ?_ GE156.out | refine below_set ?_ GE165.out) | exact HB.out)⟩
        ·rw [if_neg c22] at H
         have c22b0 : (t164 == 2) = false := beq_eq_false_iff_ne.mpr c22
         have c22b1 : (t164 != 2) = true := bne_iff_ne.mpr c22
         obtain rfl := Option.some.inj H
         have hcz61_0 : wc.cell? ⟨gb156, 0, none⟩ = some (.int .i64 a0_0) := (blk_cell BK156.out 0).trans rfl
         have hcz61_1 : wc.cell? ⟨gb156, 1, none⟩ = some (.slice A0_1 l0_1.length c0_1) := (blk_cell BK156.out 1).trans rfl
         have hfz61_0 := blk_frozen BK156.out 0
         have hfz61_1 := blk_frozen BK156.out 1
         try go_wp2_with (first | ((with_reducible refine gate_callee (f := 28) rfl ?_); refine goesL_ (some 22) rfl rfl Try.func28 q_10 rfl #[.agg #[.int .i64 a0_0, .slice A0_1 l0_1.length c0_1]] rfl q_4 ?_; (with_reducible refine (batonlaw31_right.calls a0_0 _ _ l0_1 true _ ?side1 ?side2 A12.out).mono ?_); (case side1 => repeat (first | exact (Kd.C_below HR0_1.out HB.out) | (with_reducible refine Kd.C_alloc ?_ _) | (with_reducible refine Kd.C_drewN ?_ _) | (with_reducible refine Kd.C_drew ?_))); (case side2 => exact HC0_1.out); rintro e w62 ⟨rfl, hb⟩; refine ⟨_, rfl, ?_⟩; have n0_ := Aside0.mk (blk_below (g := gb156) (o := .cells #[.int .i64 a0_0, .slice A0_1 l0_1.length c0_1] 47 (0, 0)) q_3 hb); have n1_ := Aside0.mk (below_step q_1 hb); clear BK156; clear HB; have BK156 := n0_; have HB := n1_; clear n0_ n1_; (try clear hb); (try clear hb2); (try clear hk); (try clear hi); have hcz63_0 : w62.cell? ⟨gb156, 0, none⟩ = some (.int .i64 a0_0) := (blk_cell BK156.out 0).trans rfl; have hcz63_1 : w62.cell? ⟨gb156, 1, none⟩ = some (.slice A0_1 l0_1.length c0_1) := (blk_cell BK156.out 1).trans rfl; have hfz63_0 := blk_frozen BK156.out 0; have hfz63_1 := blk_frozen BK156.out 1) | ((with_reducible refine gate_callee (f := 29) rfl ?_); refine goesL_ (some 24) rfl rfl Try.func29 q_10 rfl #[.agg #[.int .i64 a0_0, .slice A0_1 l0_1.length c0_1]] rfl q_4 ?_; (with_reducible refine (outbox_Right.calls a0_0 _ _ l0_1 t159 _ ?side1 ?side2 A13.out).mono ?_); (case side1 => repeat (first | exact (Kd.C_below HR0_1.out HB.out) | (with_reducible refine Kd.C_alloc ?_ _) | (with_reducible refine Kd.C_drewN ?_ _) | (with_reducible refine Kd.C_drew ?_))); (case side2 => exact HC0_1.out); rintro e w64 ⟨rfl, hb⟩; refine ⟨_, rfl, ?_⟩; have n0_ := Aside0.mk (blk_below (g := gb156) (o := .cells #[.int .i64 a0_0, .slice A0_1 l0_1.length c0_1] 47 (0, 0)) q_3 hb); have n1_ := Aside0.mk (below_step q_1 hb); clear BK156; clear HB; have BK156 := n0_; have HB := n1_; clear n0_ n1_; (try clear hb); (try clear hb2); (try clear hk); (try clear hi); have hcz65_0 : w64.cell? ⟨gb156, 0, none⟩ = some (.int .i64 a0_0) := (blk_cell BK156.out 0).trans rfl; have hcz65_1 : w64.cell? ⟨gb156, 1, none⟩ = some (.slice A0_1 l0_1.length c0_1) := (blk_cell BK156.out 1).trans rfl; have hfz65_0 := blk_frozen BK156.out 0; have hfz65_1 := blk_frozen BK156.out 1) | ((with_reducible refine gate_callee (f := 27) rfl ?_); refine goesL_ (some 38) rfl rfl Try.func27 q_10 rfl #[.agg #[.int .i64 a0_0, .slice A0_1 l0_1.length c0_1], .slice A1 l1.length c1] rfl q_4 ?_; (with_reducible refine (outbox_Put.calls kj4 a0_0 (fun k_ => k_ < w.heap.size) _ _ l0_1 (fun k_ => k_ < w.heap.size) _ _ l1 t160 t161 t164 _ ?side1 ?side2 A20.out).mono ?_); (case side1 => exact Kd.V_mk HC0_1.out (Kd.F_below (Kd.C_F (Kd.heap_int .u8) HR0_1.out) q_1)); (case side2 => exact Kd.V_mk HC1.out (Kd.F_below (Kd.C_F (Kd.heap_int .u8) HR1.out) q_1)); rintro e w66 ⟨v162, rfl, ho0, hb⟩; refine ⟨_, rfl, ?_⟩; have n0_ := Aside0.mk (Kd.V_lower (Kd.V_mono (ok' := fun k_ => k_ ≠ gb156) ho0 (fun k_ hk_ => Or.elim hk_ (fun hs_ => Or.elim hs_ (fun hs_ => fun e_ => Nat.not_le.2 hs_ q_21) (fun hs_ => fun e_ => Nat.not_le.2 hs_ q_21)) (fun hn_ => (Kd.freshB (g := gb156) (o := .cells #[.int .i64 a0_0, .slice A0_1 l0_1.length c0_1] 47 (0, 0)) q_3 k_ hn_)))) (below_size q_1)); have n1_ := Aside0.mk (blk_below (g := gb156) (o := .cells #[.int .i64 a0_0, .slice A0_1 l0_1.length c0_1] 47 (0, 0)) q_3 hb); have n2_ := Aside0.mk (below_step q_1 hb); clear BK156; clear HB; have HO163 := n0_; have BK156 := n1_; have HB := n2_; clear n0_ n1_ n2_; (try clear hb); (try clear hb2); (try clear hk); (try clear hi); (try clear ho0)) | ((with_reducible refine gate_dst (N := 7) rfl ?_); (try (refine gate_guard (by rfl) ?_; dsimp only)); refine box_event ?hg (N := 7) ?hd (cs := #[.int .i64 0, .slice none 0 0]) (t := 47) ?hr ?_; (case hd => rfl); (case hg => rfl); (case hr => first | (go_simp; done) | (go_simp; rfl)); intro gb165 hg w67 hbox hb; have n0_ := Aside0.mk (Kd.V_below (Kd.V_elderB q_6 gb165 (Nat.le_of_eq hg.symm)) hb); have n1_ := Aside0.mk (blk_below (g := gb156) (o := .cells #[.int .i64 a0_0, .slice A0_1 l0_1.length c0_1] 47 (0, 0)) q_3 hb); have n2_ := Aside0.mk (below_step q_1 hb); have n3_ := Aside0.mk (hbox); have n4_ := Aside0.mk ((by rw [hg]; exact (below_size q_1) : w.heap.size <= gb165)); have n5_ := Aside0.mk ((by rw [hg]; exact (below_size q_1) : w.heap.size <= gb165)); have n6_ := Aside0.mk ((by rw [hg]; exact Nat.ne_of_lt (blk_lt (g := gb156) (o := .cells #[.int .i64 a0_0, .slice A0_1 l0_1.length c0_1] 47 (0, 0)) q_3) : gb156 ≠ gb165)); have n7_ := Aside0.mk ((by rw [hg]; exact Nat.ne_of_gt (blk_lt (g := gb156) (o := .cells #[.int .i64 a0_0, .slice A0_1 l0_1.length c0_1] 47 (0, 0)) q_3) : gb165 ≠ gb156)); clear HO163; clear BK156; clear HB; have HO163 := n0_; have BK156 := n1_; have HB := n2_; have BK165 := n3_; have GW165 := n4_; have GE165 := n5_; have NB156_165 := n6_; have NB165_156 := n7_; clear n0_ n1_ n2_ n3_ n4_ n5_ n6_ n7_; clear hb hbox hg; have hnb68 := NB165_156.out; have hnc68 := NB156_165.out; have hcz69_0 : w67.cell? ⟨gb165, 0, none⟩ = some (.int .i64 0) := (blk_cell BK165.out 0).trans rfl; have hcz69_1 : w67.cell? ⟨gb165, 1, none⟩ = some (.slice none 0 0) := (blk_cell BK165.out 1).trans rfl; have hfz69_0 := blk_frozen BK165.out 0; have hfz69_1 := blk_frozen BK165.out 1; obtain ⟨Ao70, co70, eo70⟩ := Kd.V_slice HO163.out; subst eo70; have hcz71_0 : w67.cell? ⟨gb156, 0, none⟩ = some (.int .i64 a0_0) := (blk_cell BK156.out 0).trans rfl; have hcz71_1 : w67.cell? ⟨gb156, 1, none⟩ = some (.slice A0_1 l0_1.length c0_1) := (blk_cell BK156.out 1).trans rfl; have hfz71_0 := blk_frozen BK156.out 0; have hfz71_1 := blk_frozen BK156.out 1))
         have n0_ : Aside0 (Kd.V (Kd.int .u8) 5 ((w67.setCell ⟨gb165, 0, none⟩ (.int .i64 t160)).setCell ⟨gb165, 1, none⟩ (.slice Ao70 t161.length co70)) w.heap.size (fun k_ => k_ ≠ gb156 /\ k_ ≠ gb165) (.slice Ao70 t161.length co70) t161) := ⟨by (with_reducible repeat (first | apply Kd.V_alloc | apply Kd.V_drewN | apply Kd.V_drew)); exact Kd.V_mono (Kd.V_far (p := ⟨gb165, 1, none⟩) (Kd.V_far (p := ⟨gb165, 0, none⟩) (Kd.V_mono HO163.out (fun k_ hk => (⟨hk, hk.2⟩ : _ /\ k_ ≠ gb165))) (fun _ hk => hk.2) (.int .i64 t160)) (fun _ hk => hk.2) (.slice Ao70 t161.length co70)) (fun _ hk => ⟨hk.1.1, hk.1.2⟩)⟩
         have n1_ : Aside0 (((w67.setCell ⟨gb165, 0, none⟩ (.int .i64 t160)).setCell ⟨gb165, 1, none⟩ (.slice Ao70 t161.length co70)).heap[gb156]? = some (.cells #[.int .i64 a0_0, .slice A0_1 l0_1.length c0_1] 47 (0, 0))) := ⟨by (with_reducible repeat (first | refine blk_drewN ?_ _ | refine blk_drew ?_ | refine blk_alloc ?_ _)); refine blk_far ?_ NB156_165.out _; (with_reducible repeat (first | refine blk_drewN ?_ _ | refine blk_drew ?_ | refine blk_alloc ?_ _)); refine blk_far ?_ NB156_165.out _; (with_reducible repeat (first | refine blk_drewN ?_ _ | refine blk_drew ?_ | refine blk_alloc ?_ _)); exact BK156.out⟩
         have n2_ : Aside0 (((w67.setCell ⟨gb165, 0, none⟩ (.int .i64 t160)).setCell ⟨gb165, 1, none⟩ (.slice Ao70 t161.length co70)).heap[gb165]? = some (.cells #[.int .i64 t160, .slice Ao70 t161.length co70] 47 (0, 0))) := ⟨by (with_reducible repeat (first | refine blk_drewN ?_ _ | refine blk_drew ?_ | refine blk_alloc ?_ _)); refine blk_put (cs := #[.int .i64 t160, .slice none 0 0]) ?_ 1 _ rfl; (with_reducible repeat (first | refine blk_drewN ?_ _ | refine blk_drew ?_ | refine blk_alloc ?_ _)); refine blk_put (cs := #[.int .i64 0, .slice none 0 0]) ?_ 0 _ rfl; (with_reducible repeat (first | refine blk_drewN ?_ _ | refine blk_drew ?_ | refine blk_alloc ?_ _)); exact BK165.out⟩
         have n3_ : Aside0 (Below w.heap.size w ((w67.setCell ⟨gb165, 0, none⟩ (.int .i64 t160)).setCell ⟨gb165, 1, none⟩ (.slice Ao70 t161.length co70))) := ⟨by repeat (first | (with_reducible first | exact HB.out | apply below_alloc | apply pw_below_drewN | apply below_drew1 | refine below_set ?_ GE156.out | refine below_set ?_ GE165.out) | exact HB.out)⟩
         (try clear HO163)
         (try clear BK156)
         (try clear BK165)
         (try clear HB)
         generalize ((w67.setCell ⟨gb165, 0, none⟩ (.int .i64 t160)).setCell ⟨gb165, 1, none⟩ (.slice Ao70 t161.length co70)) = w72 at n0_ n1_ n2_ n3_ ⊢
         have HO163 := n0_
         have BK156 := n1_
         have BK165 := n2_
         have HB := n3_
         clear n0_ n1_ n2_ n3_
         have n0_ := Aside0.mk (Kd.V_drew HO163.out)
         have n1_ := Aside0.mk (blk_drew BK156.out)
         have n2_ := Aside0.mk (blk_drew BK165.out)
         have n3_ := Aside0.mk (below_drew1 HB.out)
         clear HO163
         clear BK156
         clear BK165
         clear HB
         have HO163 := n0_
         have BK156 := n1_
         have BK165 := n2_
         have HB := n3_
         clear n0_ n1_ n2_ n3_
         refine start_ (n := 17) (S := fun w' => True) (ds := []) #[false, false, false, false, false, false, false, false, false, false, false, false, false, false, false, false, false] q_10 rfl rfl trivial (fun hHeld => ?_); refine with_tabW batonlaw31_OutboxPuts.tab13 batonlaw31_OutboxPuts.bits13 (fun HT_ HW_ => ?_)
         generalize w72.drew = w73 at HO163 BK156 BK165 HB hHeld ⊢
         refine pure_ (i := 0) (N := some 49) (v := ?_) (a' := ?_) #[true, false, false, false, false, false, false, false, false, false, false, false, false, false, false, false, false] rfl rfl (any_of HT_.out q_10) (fun _ _ _ h => h) (Or.inl ⟨by rfl, ?_⟩) ?_ ?_
         rotate_left
         ·intro w'
          go_simp
          with_reducible rfl
         rotate_left
         ·simp only [Act.put, List.setIfInBounds_toArray, List.set_cons_zero, List.set_cons_succ, i64_w, i32_w]
          rfl
         refine pure_ (i := 1) (N := some 50) (v := ?_) (a' := ?_) #[true, true, false, false, false, false, false, false, false, false, false, false, false, false, false, false, false] rfl rfl (any_of HT_.out q_10) (fun _ _ _ h => h) (Or.inl ⟨by rfl, ?_⟩) ?_ ?_
         rotate_left
         ·intro w'
          go_simp
          with_reducible rfl
         rotate_left
         ·simp only [Act.put, List.setIfInBounds_toArray, List.set_cons_zero, List.set_cons_succ, i64_w, i32_w]
          rfl
         refine pure_ (i := 2) (N := some 51) (v := ?_) (a' := ?_) #[true, true, true, false, false, false, false, false, false, false, false, false, false, false, false, false, false] rfl rfl (any_of HT_.out q_10) (fun _ _ _ h => h) (Or.inl ⟨by rfl, ?_⟩) ?_ ?_
         rotate_left
         ·intro w'
          go_simp
          with_reducible rfl
         rotate_left
         ·simp only [Act.put, List.setIfInBounds_toArray, List.set_cons_zero, List.set_cons_succ, i64_w, i32_w]
          rfl
         refine pure_ (i := 3) (N := some 52) (v := undef) (a' := ?_) #[true, true, true, true, false, false, false, false, false, false, false, false, false, false, false, false, false] rfl rfl (any_of HT_.out q_10) (fun _ _ _ h => h) (Or.inr ⟨by rfl, rfl⟩) ?_ ?_
         rotate_left
         ·simp only [Act.put, List.setIfInBounds_toArray, List.set_cons_zero, List.set_cons_succ, i64_w, i32_w]
          rfl
         refine pure_ (i := 4) (N := some 53) (v := undef) (a' := ?_) #[true, true, true, true, true, false, false, false, false, false, false, false, false, false, false, false, false] rfl rfl (any_of HT_.out q_10) (fun _ _ _ h => h) (Or.inr ⟨by rfl, rfl⟩) ?_ ?_
         rotate_left
         ·simp only [Act.put, List.setIfInBounds_toArray, List.set_cons_zero, List.set_cons_succ, i64_w, i32_w]
          rfl
         refine pure_ (i := 5) (N := some 54) (v := undef) (a' := ?_) #[true, true, true, true, true, true, false, false, false, false, false, false, false, false, false, false, false] rfl rfl (any_of HT_.out q_10) (fun _ _ _ h => h) (Or.inr ⟨by rfl, rfl⟩) ?_ ?_
         rotate_left
         ·simp only [Act.put, List.setIfInBounds_toArray, List.set_cons_zero, List.set_cons_succ, i64_w, i32_w]
          rfl
         refine pure_ (i := 6) (N := some 55) (v := undef) (a' := ?_) #[true, true, true, true, true, true, true, false, false, false, false, false, false, false, false, false, false] rfl rfl (any_of HT_.out q_10) (fun _ _ _ h => h) (Or.inr ⟨by rfl, rfl⟩) ?_ ?_
         rotate_left
         ·simp only [Act.put, List.setIfInBounds_toArray, List.set_cons_zero, List.set_cons_succ, i64_w, i32_w]
          rfl
         refine pure_ (i := 7) (N := some 56) (v := undef) (a' := ?_) #[true, true, true, true, true, true, true, true, false, false, false, false, false, false, false, false, false] rfl rfl (any_of HT_.out q_10) (fun _ _ _ h => h) (Or.inr ⟨by rfl, rfl⟩) ?_ ?_
         rotate_left
         ·simp only [Act.put, List.setIfInBounds_toArray, List.set_cons_zero, List.set_cons_succ, i64_w, i32_w]
          rfl
         refine pure_ (i := 8) (N := some 57) (v := ?_) (a' := ?_) #[true, true, true, true, true, true, true, true, true, false, false, false, false, false, false, false, false] rfl rfl (any_of HT_.out q_10) (fun _ _ _ h => h) (Or.inl ⟨by rfl, ?_⟩) ?_ ?_
         rotate_left
         ·intro w'
          go_simp
          with_reducible rfl
         rotate_left
         ·simp only [Act.put, List.setIfInBounds_toArray, List.set_cons_zero, List.set_cons_succ, i64_w, i32_w]
          rfl
         refine pure_ (i := 9) (N := some 58) (v := ?_) (a' := ?_) #[true, true, true, true, true, true, true, true, true, true, false, false, false, false, false, false, false] rfl rfl (any_of HT_.out q_10) (fun _ _ _ h => h) (Or.inl ⟨by rfl, ?_⟩) ?_ ?_
         rotate_left
         ·intro w'
          go_simp
          with_reducible rfl
         rotate_left
         ·simp only [Act.put, List.setIfInBounds_toArray, List.set_cons_zero, List.set_cons_succ, i64_w, i32_w]
          rfl
         refine pure_ (i := 10) (N := some 59) (v := undef) (a' := ?_) #[true, true, true, true, true, true, true, true, true, true, true, false, false, false, false, false, false] rfl rfl (any_of HT_.out q_10) (fun _ _ _ h => h) (Or.inr ⟨by rfl, rfl⟩) ?_ ?_
         rotate_left
         ·simp only [Act.put, List.setIfInBounds_toArray, List.set_cons_zero, List.set_cons_succ, i64_w, i32_w]
          rfl
         refine pure_ (i := 11) (N := some 60) (v := undef) (a' := ?_) #[true, true, true, true, true, true, true, true, true, true, true, true, false, false, false, false, false] rfl rfl (any_of HT_.out q_10) (fun _ _ _ h => h) (Or.inr ⟨by rfl, rfl⟩) ?_ ?_
         rotate_left
         ·simp only [Act.put, List.setIfInBounds_toArray, List.set_cons_zero, List.set_cons_succ, i64_w, i32_w]
          rfl
         refine pure_ (i := 12) (N := some 61) (v := undef) (a' := ?_) #[true, true, true, true, true, true, true, true, true, true, true, true, true, false, false, false, false] rfl rfl (any_of HT_.out q_10) (fun _ _ _ h => h) (Or.inr ⟨by rfl, rfl⟩) ?_ ?_
         rotate_left
         ·simp only [Act.put, List.setIfInBounds_toArray, List.set_cons_zero, List.set_cons_succ, i64_w, i32_w]
          rfl
         refine pure_ (i := 13) (N := some 62) (v := undef) (a' := ?_) #[true, true, true, true, true, true, true, true, true, true, true, true, true, true, false, false, false] rfl rfl (any_of HT_.out q_10) (fun _ _ _ h => h) (Or.inr ⟨by rfl, rfl⟩) ?_ ?_
         rotate_left
         ·simp only [Act.put, List.setIfInBounds_toArray, List.set_cons_zero, List.set_cons_succ, i64_w, i32_w]
          rfl
         refine pure_ (i := 14) (N := some 63) (v := undef) (a' := ?_) #[true, true, true, true, true, true, true, true, true, true, true, true, true, true, true, false, false] rfl rfl (any_of HT_.out q_10) (fun _ _ _ h => h) (Or.inr ⟨by rfl, rfl⟩) ?_ ?_
         rotate_left
         ·simp only [Act.put, List.setIfInBounds_toArray, List.set_cons_zero, List.set_cons_succ, i64_w, i32_w]
          rfl
         refine pure_ (i := 15) (N := some 64) (v := ?_) (a' := ?_) #[true, true, true, true, true, true, true, true, true, true, true, true, true, true, true, true, false] rfl rfl (any_of HT_.out q_10) (fun _ _ _ h => h) (Or.inl ⟨by rfl, ?_⟩) ?_ ?_
         rotate_left
         ·intro w'
          go_simp
          with_reducible rfl
         rotate_left
         ·simp only [Act.put, List.setIfInBounds_toArray, List.set_cons_zero, List.set_cons_succ, i64_w, i32_w]
          rfl
         refine pure_ (i := 16) (N := some 4) (v := ?_) (a' := ?_) #[true, true, true, true, true, true, true, true, true, true, true, true, true, true, true, true, true] rfl rfl (any_of HT_.out q_10) (fun _ _ _ h => h) (Or.inl ⟨by rfl, ?_⟩) ?_ ?_
         rotate_left
         ·intro w'
          go_simp
          with_reducible rfl
         rotate_left
         ·simp only [Act.put, List.setIfInBounds_toArray, List.set_cons_zero, List.set_cons_succ, i64_w, i32_w]
          rfl
         refine done_ (done_of HT_.out q_10) ?_
         try go_wp2
         go_ret
         exact ⟨by first | rfl | (simp [errW_none, errW_some] <;> rfl) | (simp [*, errW_none, errW_some] <;> rfl), by repeat (first | (with_reducible first | exact HB.out | apply below_alloc | apply pw_below_drewN | apply below_drew1 | refine below_set ?_ GE156.out | refine below_set ?_ GE165.out) | exact HB.out)⟩
       ·rw [if_neg c21] at H
        have c21b0 : decide (256 < (wrap64 ((l0_1.length : Int) + (l1.length : Int)))) = false := decide_eq_false c21
        clear c21
        by_cases c74 : (wrap64 ((wrap64 (a0_0 + (l0_1.length : Int))) + (l1.length : Int))) > 281474976710656
        ·rw [if_pos c74] at H
         have c74b0 : decide (281474976710656 < (wrap64 ((wrap64 (a0_0 + (l0_1.length : Int))) + (l1.length : Int)))) = true := decide_eq_true c74
         clear c74
         by_cases c75 : t164 = 16
         ·rw [if_pos c75] at H
          have c75b0 : (t164 == 16) = true := beq_iff_eq.mpr c75
          have c75b1 : (t164 != 16) = false := bne_eq_false_iff_eq.mpr c75
          clear c75
          replace H := Option.bind_eq_some_iff.mp H
          obtain ⟨t173, A760, H⟩ := H
          replace H : ((batonlaw31_keys.f kj4 a0_0 l0_1).bind fun t176 => ((batonref31_Same.f kj4 t173 t176).bind fun t179 => (if t179 = true then (some (t160 == a0_0)) else (some false)))) = some r := H
          have A76 := Aside0.mk A760
          clear A760
          replace H := Option.bind_eq_some_iff.mp H
          obtain ⟨t176, A770, H⟩ := H
          replace H : ((batonref31_Same.f kj4 t173 t176).bind fun t179 => (if t179 = true then (some (t160 == a0_0)) else (some false))) = some r := H
          have A77 := Aside0.mk A770
          clear A770
          replace H := Option.bind_eq_some_iff.mp H
          obtain ⟨t179, A780, H⟩ := H
          replace H : (if t179 = true then (some (t160 == a0_0)) else (some false)) = some r := H
          have A78 := Aside0.mk A780
          clear A780
          by_cases c79 : t179 = true
          ·subst c79
           have H1 : (some (t160 == a0_0)) = some r := by rw [if_pos rfl] at H; exact H
           clear H
           have H := H1
           clear H1
           obtain rfl := Option.some.inj H
           have hcz80_0 : wc.cell? ⟨gb156, 0, none⟩ = some (.int .i64 a0_0) := (blk_cell BK156.out 0).trans rfl
           have hcz80_1 : wc.cell? ⟨gb156, 1, none⟩ = some (.slice A0_1 l0_1.length c0_1) := (blk_cell BK156.out 1).trans rfl
           have hfz80_0 := blk_frozen BK156.out 0
           have hfz80_1 := blk_frozen BK156.out 1
           try go_wp2_with (first | ((with_reducible refine gate_callee (f := 28) rfl ?_); refine goesL_ (some 22) rfl rfl Try.func28 q_10 rfl #[.agg #[.int .i64 a0_0, .slice A0_1 l0_1.length c0_1]] rfl q_4 ?_; (with_reducible refine (batonlaw31_right.calls a0_0 _ _ l0_1 true _ ?side1 ?side2 A12.out).mono ?_); (case side1 => repeat (first | exact (Kd.C_below HR0_1.out HB.out) | (with_reducible refine Kd.C_alloc ?_ _) | (with_reducible refine Kd.C_drewN ?_ _) | (with_reducible refine Kd.C_drew ?_))); (case side2 => exact HC0_1.out); rintro e w81 ⟨rfl, hb⟩; refine ⟨_, rfl, ?_⟩; have n0_ := Aside0.mk (blk_below (g := gb156) (o := .cells #[.int .i64 a0_0, .slice A0_1 l0_1.length c0_1] 47 (0, 0)) q_3 hb); have n1_ := Aside0.mk (below_step q_1 hb); clear BK156; clear HB; have BK156 := n0_; have HB := n1_; clear n0_ n1_; (try clear hb); (try clear hb2); (try clear hk); (try clear hi); have hcz82_0 : w81.cell? ⟨gb156, 0, none⟩ = some (.int .i64 a0_0) := (blk_cell BK156.out 0).trans rfl; have hcz82_1 : w81.cell? ⟨gb156, 1, none⟩ = some (.slice A0_1 l0_1.length c0_1) := (blk_cell BK156.out 1).trans rfl; have hfz82_0 := blk_frozen BK156.out 0; have hfz82_1 := blk_frozen BK156.out 1) | ((with_reducible refine gate_callee (f := 29) rfl ?_); refine goesL_ (some 24) rfl rfl Try.func29 q_10 rfl #[.agg #[.int .i64 a0_0, .slice A0_1 l0_1.length c0_1]] rfl q_4 ?_; (with_reducible refine (outbox_Right.calls a0_0 _ _ l0_1 t159 _ ?side1 ?side2 A13.out).mono ?_); (case side1 => repeat (first | exact (Kd.C_below HR0_1.out HB.out) | (with_reducible refine Kd.C_alloc ?_ _) | (with_reducible refine Kd.C_drewN ?_ _) | (with_reducible refine Kd.C_drew ?_))); (case side2 => exact HC0_1.out); rintro e w83 ⟨rfl, hb⟩; refine ⟨_, rfl, ?_⟩; have n0_ := Aside0.mk (blk_below (g := gb156) (o := .cells #[.int .i64 a0_0, .slice A0_1 l0_1.length c0_1] 47 (0, 0)) q_3 hb); have n1_ := Aside0.mk (below_step q_1 hb); clear BK156; clear HB; have BK156 := n0_; have HB := n1_; clear n0_ n1_; (try clear hb); (try clear hb2); (try clear hk); (try clear hi); have hcz84_0 : w83.cell? ⟨gb156, 0, none⟩ = some (.int .i64 a0_0) := (blk_cell BK156.out 0).trans rfl; have hcz84_1 : w83.cell? ⟨gb156, 1, none⟩ = some (.slice A0_1 l0_1.length c0_1) := (blk_cell BK156.out 1).trans rfl; have hfz84_0 := blk_frozen BK156.out 0; have hfz84_1 := blk_frozen BK156.out 1) | ((with_reducible refine gate_callee (f := 27) rfl ?_); refine goesL_ (some 38) rfl rfl Try.func27 q_10 rfl #[.agg #[.int .i64 a0_0, .slice A0_1 l0_1.length c0_1], .slice A1 l1.length c1] rfl q_4 ?_; (with_reducible refine (outbox_Put.calls kj4 a0_0 (fun k_ => k_ < w.heap.size) _ _ l0_1 (fun k_ => k_ < w.heap.size) _ _ l1 t160 t161 t164 _ ?side1 ?side2 A20.out).mono ?_); (case side1 => exact Kd.V_mk HC0_1.out (Kd.F_below (Kd.C_F (Kd.heap_int .u8) HR0_1.out) q_1)); (case side2 => exact Kd.V_mk HC1.out (Kd.F_below (Kd.C_F (Kd.heap_int .u8) HR1.out) q_1)); rintro e w85 ⟨v162, rfl, ho0, hb⟩; refine ⟨_, rfl, ?_⟩; have n0_ := Aside0.mk (Kd.V_lower (Kd.V_mono (ok' := fun k_ => k_ ≠ gb156) ho0 (fun k_ hk_ => Or.elim hk_ (fun hs_ => Or.elim hs_ (fun hs_ => fun e_ => Nat.not_le.2 hs_ q_21) (fun hs_ => fun e_ => Nat.not_le.2 hs_ q_21)) (fun hn_ => (Kd.freshB (g := gb156) (o := .cells #[.int .i64 a0_0, .slice A0_1 l0_1.length c0_1] 47 (0, 0)) q_3 k_ hn_)))) (below_size q_1)); have n1_ := Aside0.mk (blk_below (g := gb156) (o := .cells #[.int .i64 a0_0, .slice A0_1 l0_1.length c0_1] 47 (0, 0)) q_3 hb); have n2_ := Aside0.mk (below_step q_1 hb); clear BK156; clear HB; have HO163 := n0_; have BK156 := n1_; have HB := n2_; clear n0_ n1_ n2_; (try clear hb); (try clear hb2); (try clear hk); (try clear hi); (try clear ho0)) | ((with_reducible refine gate_dst (N := 7) rfl ?_); (try (refine gate_guard (by rfl) ?_; dsimp only)); refine box_event ?hg (N := 7) ?hd (cs := #[.int .i64 0, .slice none 0 0]) (t := 47) ?hr ?_; (case hd => rfl); (case hg => rfl); (case hr => first | (go_simp; done) | (go_simp; rfl)); intro gb165 hg w86 hbox hb; have n0_ := Aside0.mk (Kd.V_below (Kd.V_elderB q_6 gb165 (Nat.le_of_eq hg.symm)) hb); have n1_ := Aside0.mk (blk_below (g := gb156) (o := .cells #[.int .i64 a0_0, .slice A0_1 l0_1.length c0_1] 47 (0, 0)) q_3 hb); have n2_ := Aside0.mk (below_step q_1 hb); have n3_ := Aside0.mk (hbox); have n4_ := Aside0.mk ((by rw [hg]; exact (below_size q_1) : w.heap.size <= gb165)); have n5_ := Aside0.mk ((by rw [hg]; exact (below_size q_1) : w.heap.size <= gb165)); have n6_ := Aside0.mk ((by rw [hg]; exact Nat.ne_of_lt (blk_lt (g := gb156) (o := .cells #[.int .i64 a0_0, .slice A0_1 l0_1.length c0_1] 47 (0, 0)) q_3) : gb156 ≠ gb165)); have n7_ := Aside0.mk ((by rw [hg]; exact Nat.ne_of_gt (blk_lt (g := gb156) (o := .cells #[.int .i64 a0_0, .slice A0_1 l0_1.length c0_1] 47 (0, 0)) q_3) : gb165 ≠ gb156)); clear HO163; clear BK156; clear HB; have HO163 := n0_; have BK156 := n1_; have HB := n2_; have BK165 := n3_; have GW165 := n4_; have GE165 := n5_; have NB156_165 := n6_; have NB165_156 := n7_; clear n0_ n1_ n2_ n3_ n4_ n5_ n6_ n7_; clear hb hbox hg; have hnb87 := NB165_156.out; have hnc87 := NB156_165.out; have hcz88_0 : w86.cell? ⟨gb165, 0, none⟩ = some (.int .i64 0) := (blk_cell BK165.out 0).trans rfl; have hcz88_1 : w86.cell? ⟨gb165, 1, none⟩ = some (.slice none 0 0) := (blk_cell BK165.out 1).trans rfl; have hfz88_0 := blk_frozen BK165.out 0; have hfz88_1 := blk_frozen BK165.out 1; obtain ⟨Ao89, co89, eo89⟩ := Kd.V_slice HO163.out; subst eo89; have hcz90_0 : w86.cell? ⟨gb156, 0, none⟩ = some (.int .i64 a0_0) := (blk_cell BK156.out 0).trans rfl; have hcz90_1 : w86.cell? ⟨gb156, 1, none⟩ = some (.slice A0_1 l0_1.length c0_1) := (blk_cell BK156.out 1).trans rfl; have hfz90_0 := blk_frozen BK156.out 0; have hfz90_1 := blk_frozen BK156.out 1))
           have n0_ : Aside0 (Kd.V (Kd.int .u8) 5 ((w86.setCell ⟨gb165, 0, none⟩ (.int .i64 t160)).setCell ⟨gb165, 1, none⟩ (.slice Ao89 t161.length co89)) w.heap.size (fun k_ => k_ ≠ gb156 /\ k_ ≠ gb165) (.slice Ao89 t161.length co89) t161) := ⟨by (with_reducible repeat (first | apply Kd.V_alloc | apply Kd.V_drewN | apply Kd.V_drew)); exact Kd.V_mono (Kd.V_far (p := ⟨gb165, 1, none⟩) (Kd.V_far (p := ⟨gb165, 0, none⟩) (Kd.V_mono HO163.out (fun k_ hk => (⟨hk, hk.2⟩ : _ /\ k_ ≠ gb165))) (fun _ hk => hk.2) (.int .i64 t160)) (fun _ hk => hk.2) (.slice Ao89 t161.length co89)) (fun _ hk => ⟨hk.1.1, hk.1.2⟩)⟩
           have n1_ : Aside0 (((w86.setCell ⟨gb165, 0, none⟩ (.int .i64 t160)).setCell ⟨gb165, 1, none⟩ (.slice Ao89 t161.length co89)).heap[gb156]? = some (.cells #[.int .i64 a0_0, .slice A0_1 l0_1.length c0_1] 47 (0, 0))) := ⟨by (with_reducible repeat (first | refine blk_drewN ?_ _ | refine blk_drew ?_ | refine blk_alloc ?_ _)); refine blk_far ?_ NB156_165.out _; (with_reducible repeat (first | refine blk_drewN ?_ _ | refine blk_drew ?_ | refine blk_alloc ?_ _)); refine blk_far ?_ NB156_165.out _; (with_reducible repeat (first | refine blk_drewN ?_ _ | refine blk_drew ?_ | refine blk_alloc ?_ _)); exact BK156.out⟩
           have n2_ : Aside0 (((w86.setCell ⟨gb165, 0, none⟩ (.int .i64 t160)).setCell ⟨gb165, 1, none⟩ (.slice Ao89 t161.length co89)).heap[gb165]? = some (.cells #[.int .i64 t160, .slice Ao89 t161.length co89] 47 (0, 0))) := ⟨by (with_reducible repeat (first | refine blk_drewN ?_ _ | refine blk_drew ?_ | refine blk_alloc ?_ _)); refine blk_put (cs := #[.int .i64 t160, .slice none 0 0]) ?_ 1 _ rfl; (with_reducible repeat (first | refine blk_drewN ?_ _ | refine blk_drew ?_ | refine blk_alloc ?_ _)); refine blk_put (cs := #[.int .i64 0, .slice none 0 0]) ?_ 0 _ rfl; (with_reducible repeat (first | refine blk_drewN ?_ _ | refine blk_drew ?_ | refine blk_alloc ?_ _)); exact BK165.out⟩
           have n3_ : Aside0 (Below w.heap.size w ((w86.setCell ⟨gb165, 0, none⟩ (.int .i64 t160)).setCell ⟨gb165, 1, none⟩ (.slice Ao89 t161.length co89))) := ⟨by repeat (first | (with_reducible first | exact HB.out | apply below_alloc | apply pw_below_drewN | apply below_drew1 | refine below_set ?_ GE156.out | refine below_set ?_ GE165.out) | exact HB.out)⟩
           (try clear HO163)
           (try clear BK156)
           (try clear BK165)
           (try clear HB)
           generalize ((w86.setCell ⟨gb165, 0, none⟩ (.int .i64 t160)).setCell ⟨gb165, 1, none⟩ (.slice Ao89 t161.length co89)) = w91 at n0_ n1_ n2_ n3_ ⊢
           have HO163 := n0_
           have BK156 := n1_
           have BK165 := n2_
           have HB := n3_
           clear n0_ n1_ n2_ n3_
           have n0_ := Aside0.mk (Kd.V_drew HO163.out)
           have n1_ := Aside0.mk (blk_drew BK156.out)
           have n2_ := Aside0.mk (blk_drew BK165.out)
           have n3_ := Aside0.mk (below_drew1 HB.out)
           clear HO163
           clear BK156
           clear BK165
           clear HB
           have HO163 := n0_
           have BK156 := n1_
           have BK165 := n2_
           have HB := n3_
           clear n0_ n1_ n2_ n3_
           refine start_ (n := 17) (S := fun w' => w'.cell? ⟨gb165, 0, none⟩ = some (.int .i64 t160) /\ w'.cell? ⟨gb165, 1, none⟩ = some (.slice Ao89 t161.length co89) /\ w'.cell? ⟨gb156, 0, none⟩ = some (.int .i64 a0_0) /\ w'.cell? ⟨gb156, 1, none⟩ = some (.slice A0_1 l0_1.length c0_1)) (ds := []) #[false, false, false, false, false, false, false, false, false, false, false, false, false, false, false, false, false] q_10 rfl rfl ⟨(blk_cell BK165.out 0).trans rfl, (blk_cell BK165.out 1).trans rfl, (blk_cell BK156.out 0).trans rfl, (blk_cell BK156.out 1).trans rfl⟩ (fun hHeld => ?_); refine with_tabW batonlaw31_OutboxPuts.tab15 batonlaw31_OutboxPuts.bits15 (fun HT_ HW_ => ?_)
           generalize w91.drew = w92 at HO163 BK156 BK165 HB hHeld ⊢
           refine pure_ (i := 0) (N := some 71) (v := ?_) (a' := ?_) #[true, false, false, false, false, false, false, false, false, false, false, false, false, false, false, false, false] rfl rfl (any_of HT_.out q_10) (fun _ _ _ h => h) (Or.inl ⟨by rfl, ?_⟩) ?_ ?_
           rotate_left
           ·intro w'
            go_simp
            with_reducible rfl
           rotate_left
           ·simp only [Act.put, List.setIfInBounds_toArray, List.set_cons_zero, List.set_cons_succ, i64_w, i32_w]
            rfl
           refine pure_ (i := 1) (N := some 72) (v := ?_) (a' := ?_) #[true, true, false, false, false, false, false, false, false, false, false, false, false, false, false, false, false] rfl rfl (any_of HT_.out q_10) (fun _ _ _ h => h) (Or.inl ⟨by rfl, ?_⟩) ?_ ?_
           rotate_left
           ·intro w'
            go_simp
            with_reducible rfl
           rotate_left
           ·simp only [Act.put, List.setIfInBounds_toArray, List.set_cons_zero, List.set_cons_succ, i64_w, i32_w]
            rfl
           refine pure_ (i := 2) (N := some 73) (v := ?_) (a' := ?_) #[true, true, true, false, false, false, false, false, false, false, false, false, false, false, false, false, false] rfl rfl (any_of HT_.out q_10) (fun _ _ _ h => h) (Or.inl ⟨by rfl, ?_⟩) ?_ ?_
           rotate_left
           ·intro w'
            go_simp
            with_reducible rfl
           rotate_left
           ·simp only [Act.put, List.setIfInBounds_toArray, List.set_cons_zero, List.set_cons_succ, i64_w, i32_w]
            rfl
           refine take_ (i := 3) (N := some 74) (v := ?_) (a' := ?_) #[true, true, true, true, false, false, false, false, false, false, false, false, false, false, false, false, false] rfl rfl (take_ofW HT_.out HW_.out q_10) (fun _ _ _ h => h) (Or.inl ⟨by rfl, ?_⟩) hHeld ?_ ?_
           rotate_left
           ·rintro w' ⟨s0, s1, s2, s3⟩
            go_simp
            with_reducible rfl
           rotate_left
           ·simp only [Act.put, List.setIfInBounds_toArray, List.set_cons_zero, List.set_cons_succ, i64_w, i32_w]
            rfl
           refine take_ (i := 5) (N := some 76) (v := ?_) (a' := ?_) #[true, true, true, true, false, true, false, false, false, false, false, false, false, false, false, false, false] rfl rfl (take_ofW HT_.out HW_.out q_10) (fun _ _ _ h => h) (Or.inl ⟨by rfl, ?_⟩) hHeld ?_ ?_
           rotate_left
           ·rintro w' ⟨s0, s1, s2, s3⟩
            go_simp
            with_reducible rfl
           rotate_left
           ·simp only [Act.put, List.setIfInBounds_toArray, List.set_cons_zero, List.set_cons_succ, i64_w, i32_w]
            rfl
           refine one_ (i := 4) (N := some 75) #[true, true, true, true, true, true, false, false, false, false, false, false, false, false, false, false, false] rfl rfl (one_of HT_.out q_10) q_22 (fun K hK => ?_)
           refine goes_ Try.func31 q_10 rfl #[.agg #[.int .i64 t160, .slice Ao89 t161.length co89]] (by rfl) rfl rfl q_4 ?_
           with_reducible refine (batonlaw31_keys.calls kj4 t160 _ _ t161 t173 _ ?side1 ?side2 A76.out).mono ?_
           (case side1 => repeat (first | exact (Kd.V_reads' HO163.out).2.2 | (with_reducible refine Kd.C_alloc ?_ _) | (with_reducible refine Kd.C_drewN ?_ _) | (with_reducible refine Kd.C_drew ?_)))
           (case side2 => exact (Kd.V_reads' HO163.out).2.1)
           rintro e w93 ⟨v174, rfl, ho0, hb⟩
           refine ⟨_, rfl, ?_⟩
           have n0_ := Aside0.mk (Kd.V_elder' q_6 (Kd.R_base ho0) hb)
           have n1_ := Aside0.mk (Kd.R_lower ho0 (below_size q_2))
           have n2_ := Aside0.mk (blk_below (g := gb156) (o := .cells #[.int .i64 a0_0, .slice A0_1 l0_1.length c0_1] 47 (0, 0)) q_3 hb)
           have n3_ := Aside0.mk (blk_below (g := gb165) (o := .cells #[.int .i64 t160, .slice Ao89 t161.length co89] 47 (0, 0)) q_5 hb)
           have n4_ := Aside0.mk (below_step q_2 hb)
           clear HO163
           clear BK156
           clear BK165
           clear HB
           have HO163 := n0_
           have HO175 := n1_
           have BK156 := n2_
           have BK165 := n3_
           have HB := n4_
           clear n0_ n1_ n2_ n3_ n4_
           (try clear hb)
           (try clear hb2)
           (try clear hk)
           (try clear hi)
           (try clear ho0)
           refine hK.out _ _ ⟨(blk_cell BK165.out 0).trans rfl, (blk_cell BK165.out 1).trans rfl, (blk_cell BK156.out 0).trans rfl, (blk_cell BK156.out 1).trans rfl⟩ (fun hHeld => ?_)
           clear hK K
           refine norm_ (a' := ?_) ?_ ?_
           rotate_left
           ·show Act.put _ (some 75) _ = _
            simp only [Act.put, List.setIfInBounds_toArray, List.set_cons_zero, List.set_cons_succ, i64_w, i32_w]
            rfl
           refine one_ (i := 6) (N := some 77) #[true, true, true, true, true, true, true, false, false, false, false, false, false, false, false, false, false] rfl rfl (one_of HT_.out q_10) q_22 (fun K hK => ?_)
           refine goes_ Try.func31 q_10 rfl #[.agg #[.int .i64 a0_0, .slice A0_1 l0_1.length c0_1]] (by rfl) rfl rfl q_4 ?_
           with_reducible refine (batonlaw31_keys.calls kj4 a0_0 _ _ l0_1 t176 _ ?side1 ?side2 A77.out).mono ?_
           (case side1 => repeat (first | exact (Kd.C_below HR0_1.out HB.out) | (with_reducible refine Kd.C_alloc ?_ _) | (with_reducible refine Kd.C_drewN ?_ _) | (with_reducible refine Kd.C_drew ?_)))
           (case side2 => exact HC0_1.out)
           rintro e w94 ⟨v177, rfl, ho0, hb⟩
           refine ⟨_, rfl, ?_⟩
           have n0_ := Aside0.mk (Kd.V_elder' q_6 (Kd.R_base ho0) hb)
           have n1_ := Aside0.mk (Kd.R_elder' q_23 (Kd.R_base ho0) hb)
           have n2_ := Aside0.mk (Kd.R_lower (Kd.R_new' ho0 (Kd.R_lt q_23)) (below_size q_2))
           have n3_ := Aside0.mk (blk_below (g := gb156) (o := .cells #[.int .i64 a0_0, .slice A0_1 l0_1.length c0_1] 47 (0, 0)) q_3 hb)
           have n4_ := Aside0.mk (blk_below (g := gb165) (o := .cells #[.int .i64 t160, .slice Ao89 t161.length co89] 47 (0, 0)) q_5 hb)
           have n5_ := Aside0.mk (below_step q_2 hb)
           clear HO163
           clear HO175
           clear BK156
           clear BK165
           clear HB
           have HO163 := n0_
           have HO175 := n1_
           have HO178 := n2_
           have BK156 := n3_
           have BK165 := n4_
           have HB := n5_
           clear n0_ n1_ n2_ n3_ n4_ n5_
           (try clear hb)
           (try clear hb2)
           (try clear hk)
           (try clear hi)
           (try clear ho0)
           obtain ⟨Ao95, co95, eo95⟩ := Kd.R_slice HO175.out
           (first | subst eo95 | (injection eo95 with f1_ f2_ f3_; have f4_ := f1_.symm; have f5_ := f3_.symm; clear f1_ f2_ f3_; subst f4_; subst f5_))
           obtain ⟨Ao96, co96, eo96⟩ := Kd.R_slice HO178.out
           (first | subst eo96 | (injection eo96 with f1_ f2_ f3_; have f4_ := f1_.symm; have f5_ := f3_.symm; clear f1_ f2_ f3_; subst f4_; subst f5_))
           refine hK.out _ _ ⟨(blk_cell BK165.out 0).trans rfl, (blk_cell BK165.out 1).trans rfl, (blk_cell BK156.out 0).trans rfl, (blk_cell BK156.out 1).trans rfl⟩ (fun hHeld => ?_)
           clear hK K
           refine norm_ (a' := ?_) ?_ ?_
           rotate_left
           ·show Act.put _ (some 77) _ = _
            simp only [Act.put, List.setIfInBounds_toArray, List.set_cons_zero, List.set_cons_succ, i64_w, i32_w]
            rfl
           refine one_ (i := 7) (N := some 78) #[true, true, true, true, true, true, true, true, false, false, false, false, false, false, false, false, false] rfl rfl (one_of HT_.out q_10) q_22 (fun K hK => ?_)
           refine goes_ Try.func30 q_10 rfl #[.slice Ao95 t173.length co95, .slice Ao96 t176.length co96] (by rfl) rfl rfl q_4 ?_
           with_reducible refine (batonref31_Same.calls kj4 _ _ t173 _ _ t176 true _ ?side1 ?side2 ?side3 ?side4 A78.out).mono ?_
           (case side1 => repeat (first | exact (Kd.R_reads' HO175.out).2.2 | (with_reducible refine Kd.C_alloc ?_ _) | (with_reducible refine Kd.C_drewN ?_ _) | (with_reducible refine Kd.C_drew ?_)))
           (case side2 => exact (Kd.R_reads' HO175.out).2.1)
           (case side3 => repeat (first | exact (Kd.R_reads' HO178.out).2.2 | (with_reducible refine Kd.C_alloc ?_ _) | (with_reducible refine Kd.C_drewN ?_ _) | (with_reducible refine Kd.C_drew ?_)))
           (case side4 => exact (Kd.R_reads' HO178.out).2.1)
           rintro e w' ⟨rfl, ⟨nd, rfl⟩⟩
           refine ⟨_, rfl, ?_⟩
           refine hK.out _ _ ⟨(blk_cell BK165.out 0).trans rfl, (blk_cell BK165.out 1).trans rfl, (blk_cell BK156.out 0).trans rfl, (blk_cell BK156.out 1).trans rfl⟩ (fun hHeld => ?_)
           clear hK K
           refine norm_ (a' := ?_) ?_ ?_
           rotate_left
           ·show Act.put _ (some 78) _ = _
            simp only [Act.put, List.setIfInBounds_toArray, List.set_cons_zero, List.set_cons_succ, i64_w, i32_w]
            rfl
           refine pure_ (i := 8) (N := some 79) (v := ?_) (a' := ?_) #[true, true, true, true, true, true, true, true, true, false, false, false, false, false, false, false, false] rfl rfl (any_of HT_.out q_10) (fun _ _ _ h => h) (Or.inl ⟨by rfl, ?_⟩) ?_ ?_
           rotate_left
           ·intro w'
            go_simp
            with_reducible rfl
           rotate_left
           ·simp only [Act.put, List.setIfInBounds_toArray, List.set_cons_zero, List.set_cons_succ, i64_w, i32_w]
            rfl
           refine pure_ (i := 9) (N := some 80) (v := ?_) (a' := ?_) #[true, true, true, true, true, true, true, true, true, true, false, false, false, false, false, false, false] rfl rfl (any_of HT_.out q_10) (fun _ _ _ h => h) (Or.inl ⟨by rfl, ?_⟩) ?_ ?_
           rotate_left
           ·intro w'
            go_simp
            with_reducible rfl
           rotate_left
           ·simp only [Act.put, List.setIfInBounds_toArray, List.set_cons_zero, List.set_cons_succ, i64_w, i32_w]
            rfl
           refine pure_ (i := 10) (N := some 81) (v := ?_) (a' := ?_) #[true, true, true, true, true, true, true, true, true, true, true, false, false, false, false, false, false] rfl rfl (any_of HT_.out q_10) (fun _ _ _ h => h) (Or.inl ⟨by rfl, ?_⟩) ?_ ?_
           rotate_left
           ·intro w'
            go_simp
            with_reducible rfl
           rotate_left
           ·simp only [Act.put, List.setIfInBounds_toArray, List.set_cons_zero, List.set_cons_succ, i64_w, i32_w]
            rfl
           refine pure_ (i := 12) (N := some 83) (v := ?_) (a' := ?_) #[true, true, true, true, true, true, true, true, true, true, true, false, true, false, false, false, false] rfl rfl (any_of HT_.out q_10) (fun _ _ _ h => h) (Or.inl ⟨by rfl, ?_⟩) ?_ ?_
           rotate_left
           ·intro w'
            go_simp
            with_reducible rfl
           rotate_left
           ·simp only [Act.put, List.setIfInBounds_toArray, List.set_cons_zero, List.set_cons_succ, i64_w, i32_w]
            rfl
           refine take_ (i := 11) (N := some 82) (v := ?_) (a' := ?_) #[true, true, true, true, true, true, true, true, true, true, true, true, true, false, false, false, false] rfl rfl (take_ofW HT_.out HW_.out q_10) (fun _ _ _ h => h) (Or.inl ⟨by rfl, ?_⟩) hHeld ?_ ?_
           rotate_left
           ·rintro w' ⟨s0, s1, s2, s3⟩
            go_simp
            with_reducible rfl
           rotate_left
           ·simp only [Act.put, List.setIfInBounds_toArray, List.set_cons_zero, List.set_cons_succ, i64_w, i32_w]
            rfl
           refine take_ (i := 13) (N := some 84) (v := ?_) (a' := ?_) #[true, true, true, true, true, true, true, true, true, true, true, true, true, true, false, false, false] rfl rfl (take_ofW HT_.out HW_.out q_10) (fun _ _ _ h => h) (Or.inl ⟨by rfl, ?_⟩) hHeld ?_ ?_
           rotate_left
           ·rintro w' ⟨s0, s1, s2, s3⟩
            go_simp
            with_reducible rfl
           rotate_left
           ·simp only [Act.put, List.setIfInBounds_toArray, List.set_cons_zero, List.set_cons_succ, i64_w, i32_w]
            rfl
           refine pure_ (i := 14) (N := some 85) (v := ?_) (a' := ?_) #[true, true, true, true, true, true, true, true, true, true, true, true, true, true, true, false, false] rfl rfl (any_of HT_.out q_10) (fun _ _ _ h => h) (Or.inl ⟨by rfl, ?_⟩) ?_ ?_
           rotate_left
           ·intro w'
            go_simp
            with_reducible rfl
           rotate_left
           ·simp only [Act.put, List.setIfInBounds_toArray, List.set_cons_zero, List.set_cons_succ, i64_w, i32_w]
            rfl
           refine pure_ (i := 15) (N := some 86) (v := ?_) (a' := ?_) #[true, true, true, true, true, true, true, true, true, true, true, true, true, true, true, true, false] rfl rfl (any_of HT_.out q_10) (fun _ _ _ h => h) (Or.inl ⟨by rfl, ?_⟩) ?_ ?_
           rotate_left
           ·intro w'
            go_simp
            with_reducible rfl
           rotate_left
           ·simp only [Act.put, List.setIfInBounds_toArray, List.set_cons_zero, List.set_cons_succ, i64_w, i32_w]
            rfl
           refine pure_ (i := 16) (N := some 4) (v := ?_) (a' := ?_) #[true, true, true, true, true, true, true, true, true, true, true, true, true, true, true, true, true] rfl rfl (any_of HT_.out q_10) (fun _ _ _ h => h) (Or.inl ⟨by rfl, ?_⟩) ?_ ?_
           rotate_left
           ·intro w'
            go_simp
            with_reducible rfl
           rotate_left
           ·simp only [Act.put, List.setIfInBounds_toArray, List.set_cons_zero, List.set_cons_succ, i64_w, i32_w]
            rfl
           refine done_ (done_of HT_.out q_10) ?_
           try go_wp2
           go_ret
           exact ⟨by first | rfl | (simp [errW_none, errW_some] <;> rfl) | (simp [*, errW_none, errW_some] <;> rfl), by repeat (first | (with_reducible first | exact HB.out | apply below_alloc | apply pw_below_drewN | apply below_drew1 | refine below_set ?_ GE156.out | refine below_set ?_ GE165.out) | exact HB.out)⟩
          ·replace c79 := Bool.eq_false_iff.mpr c79
           subst c79
           have H1 : (some false) = some r := by rw [if_neg (show ¬ (false = true) by decide)] at H; exact H
           clear H
           have H := H1
           clear H1
           obtain rfl := Option.some.inj H
           have hcz97_0 : wc.cell? ⟨gb156, 0, none⟩ = some (.int .i64 a0_0) := (blk_cell BK156.out 0).trans rfl
           have hcz97_1 : wc.cell? ⟨gb156, 1, none⟩ = some (.slice A0_1 l0_1.length c0_1) := (blk_cell BK156.out 1).trans rfl
           have hfz97_0 := blk_frozen BK156.out 0
           have hfz97_1 := blk_frozen BK156.out 1
           try go_wp2_with (first | ((with_reducible refine gate_callee (f := 28) rfl ?_); refine goesL_ (some 22) rfl rfl Try.func28 q_10 rfl #[.agg #[.int .i64 a0_0, .slice A0_1 l0_1.length c0_1]] rfl q_4 ?_; (with_reducible refine (batonlaw31_right.calls a0_0 _ _ l0_1 true _ ?side1 ?side2 A12.out).mono ?_); (case side1 => repeat (first | exact (Kd.C_below HR0_1.out HB.out) | (with_reducible refine Kd.C_alloc ?_ _) | (with_reducible refine Kd.C_drewN ?_ _) | (with_reducible refine Kd.C_drew ?_))); (case side2 => exact HC0_1.out); rintro e w98 ⟨rfl, hb⟩; refine ⟨_, rfl, ?_⟩; have n0_ := Aside0.mk (blk_below (g := gb156) (o := .cells #[.int .i64 a0_0, .slice A0_1 l0_1.length c0_1] 47 (0, 0)) q_3 hb); have n1_ := Aside0.mk (below_step q_1 hb); clear BK156; clear HB; have BK156 := n0_; have HB := n1_; clear n0_ n1_; (try clear hb); (try clear hb2); (try clear hk); (try clear hi); have hcz99_0 : w98.cell? ⟨gb156, 0, none⟩ = some (.int .i64 a0_0) := (blk_cell BK156.out 0).trans rfl; have hcz99_1 : w98.cell? ⟨gb156, 1, none⟩ = some (.slice A0_1 l0_1.length c0_1) := (blk_cell BK156.out 1).trans rfl; have hfz99_0 := blk_frozen BK156.out 0; have hfz99_1 := blk_frozen BK156.out 1) | ((with_reducible refine gate_callee (f := 29) rfl ?_); refine goesL_ (some 24) rfl rfl Try.func29 q_10 rfl #[.agg #[.int .i64 a0_0, .slice A0_1 l0_1.length c0_1]] rfl q_4 ?_; (with_reducible refine (outbox_Right.calls a0_0 _ _ l0_1 t159 _ ?side1 ?side2 A13.out).mono ?_); (case side1 => repeat (first | exact (Kd.C_below HR0_1.out HB.out) | (with_reducible refine Kd.C_alloc ?_ _) | (with_reducible refine Kd.C_drewN ?_ _) | (with_reducible refine Kd.C_drew ?_))); (case side2 => exact HC0_1.out); rintro e w100 ⟨rfl, hb⟩; refine ⟨_, rfl, ?_⟩; have n0_ := Aside0.mk (blk_below (g := gb156) (o := .cells #[.int .i64 a0_0, .slice A0_1 l0_1.length c0_1] 47 (0, 0)) q_3 hb); have n1_ := Aside0.mk (below_step q_1 hb); clear BK156; clear HB; have BK156 := n0_; have HB := n1_; clear n0_ n1_; (try clear hb); (try clear hb2); (try clear hk); (try clear hi); have hcz101_0 : w100.cell? ⟨gb156, 0, none⟩ = some (.int .i64 a0_0) := (blk_cell BK156.out 0).trans rfl; have hcz101_1 : w100.cell? ⟨gb156, 1, none⟩ = some (.slice A0_1 l0_1.length c0_1) := (blk_cell BK156.out 1).trans rfl; have hfz101_0 := blk_frozen BK156.out 0; have hfz101_1 := blk_frozen BK156.out 1) | ((with_reducible refine gate_callee (f := 27) rfl ?_); refine goesL_ (some 38) rfl rfl Try.func27 q_10 rfl #[.agg #[.int .i64 a0_0, .slice A0_1 l0_1.length c0_1], .slice A1 l1.length c1] rfl q_4 ?_; (with_reducible refine (outbox_Put.calls kj4 a0_0 (fun k_ => k_ < w.heap.size) _ _ l0_1 (fun k_ => k_ < w.heap.size) _ _ l1 t160 t161 t164 _ ?side1 ?side2 A20.out).mono ?_); (case side1 => exact Kd.V_mk HC0_1.out (Kd.F_below (Kd.C_F (Kd.heap_int .u8) HR0_1.out) q_1)); (case side2 => exact Kd.V_mk HC1.out (Kd.F_below (Kd.C_F (Kd.heap_int .u8) HR1.out) q_1)); rintro e w102 ⟨v162, rfl, ho0, hb⟩; refine ⟨_, rfl, ?_⟩; have n0_ := Aside0.mk (Kd.V_lower (Kd.V_mono (ok' := fun k_ => k_ ≠ gb156) ho0 (fun k_ hk_ => Or.elim hk_ (fun hs_ => Or.elim hs_ (fun hs_ => fun e_ => Nat.not_le.2 hs_ q_21) (fun hs_ => fun e_ => Nat.not_le.2 hs_ q_21)) (fun hn_ => (Kd.freshB (g := gb156) (o := .cells #[.int .i64 a0_0, .slice A0_1 l0_1.length c0_1] 47 (0, 0)) q_3 k_ hn_)))) (below_size q_1)); have n1_ := Aside0.mk (blk_below (g := gb156) (o := .cells #[.int .i64 a0_0, .slice A0_1 l0_1.length c0_1] 47 (0, 0)) q_3 hb); have n2_ := Aside0.mk (below_step q_1 hb); clear BK156; clear HB; have HO163 := n0_; have BK156 := n1_; have HB := n2_; clear n0_ n1_ n2_; (try clear hb); (try clear hb2); (try clear hk); (try clear hi); (try clear ho0)) | ((with_reducible refine gate_dst (N := 7) rfl ?_); (try (refine gate_guard (by rfl) ?_; dsimp only)); refine box_event ?hg (N := 7) ?hd (cs := #[.int .i64 0, .slice none 0 0]) (t := 47) ?hr ?_; (case hd => rfl); (case hg => rfl); (case hr => first | (go_simp; done) | (go_simp; rfl)); intro gb165 hg w103 hbox hb; have n0_ := Aside0.mk (Kd.V_below (Kd.V_elderB q_6 gb165 (Nat.le_of_eq hg.symm)) hb); have n1_ := Aside0.mk (blk_below (g := gb156) (o := .cells #[.int .i64 a0_0, .slice A0_1 l0_1.length c0_1] 47 (0, 0)) q_3 hb); have n2_ := Aside0.mk (below_step q_1 hb); have n3_ := Aside0.mk (hbox); have n4_ := Aside0.mk ((by rw [hg]; exact (below_size q_1) : w.heap.size <= gb165)); have n5_ := Aside0.mk ((by rw [hg]; exact (below_size q_1) : w.heap.size <= gb165)); have n6_ := Aside0.mk ((by rw [hg]; exact Nat.ne_of_lt (blk_lt (g := gb156) (o := .cells #[.int .i64 a0_0, .slice A0_1 l0_1.length c0_1] 47 (0, 0)) q_3) : gb156 ≠ gb165)); have n7_ := Aside0.mk ((by rw [hg]; exact Nat.ne_of_gt (blk_lt (g := gb156) (o := .cells #[.int .i64 a0_0, .slice A0_1 l0_1.length c0_1] 47 (0, 0)) q_3) : gb165 ≠ gb156)); clear HO163; clear BK156; clear HB; have HO163 := n0_; have BK156 := n1_; have HB := n2_; have BK165 := n3_; have GW165 := n4_; have GE165 := n5_; have NB156_165 := n6_; have NB165_156 := n7_; clear n0_ n1_ n2_ n3_ n4_ n5_ n6_ n7_; clear hb hbox hg; have hnb104 := NB165_156.out; have hnc104 := NB156_165.out; have hcz105_0 : w103.cell? ⟨gb165, 0, none⟩ = some (.int .i64 0) := (blk_cell BK165.out 0).trans rfl; have hcz105_1 : w103.cell? ⟨gb165, 1, none⟩ = some (.slice none 0 0) := (blk_cell BK165.out 1).trans rfl; have hfz105_0 := blk_frozen BK165.out 0; have hfz105_1 := blk_frozen BK165.out 1; obtain ⟨Ao106, co106, eo106⟩ := Kd.V_slice HO163.out; subst eo106; have hcz107_0 : w103.cell? ⟨gb156, 0, none⟩ = some (.int .i64 a0_0) := (blk_cell BK156.out 0).trans rfl; have hcz107_1 : w103.cell? ⟨gb156, 1, none⟩ = some (.slice A0_1 l0_1.length c0_1) := (blk_cell BK156.out 1).trans rfl; have hfz107_0 := blk_frozen BK156.out 0; have hfz107_1 := blk_frozen BK156.out 1))
           have n0_ : Aside0 (Kd.V (Kd.int .u8) 5 ((w103.setCell ⟨gb165, 0, none⟩ (.int .i64 t160)).setCell ⟨gb165, 1, none⟩ (.slice Ao106 t161.length co106)) w.heap.size (fun k_ => k_ ≠ gb156 /\ k_ ≠ gb165) (.slice Ao106 t161.length co106) t161) := ⟨by (with_reducible repeat (first | apply Kd.V_alloc | apply Kd.V_drewN | apply Kd.V_drew)); exact Kd.V_mono (Kd.V_far (p := ⟨gb165, 1, none⟩) (Kd.V_far (p := ⟨gb165, 0, none⟩) (Kd.V_mono HO163.out (fun k_ hk => (⟨hk, hk.2⟩ : _ /\ k_ ≠ gb165))) (fun _ hk => hk.2) (.int .i64 t160)) (fun _ hk => hk.2) (.slice Ao106 t161.length co106)) (fun _ hk => ⟨hk.1.1, hk.1.2⟩)⟩
           have n1_ : Aside0 (((w103.setCell ⟨gb165, 0, none⟩ (.int .i64 t160)).setCell ⟨gb165, 1, none⟩ (.slice Ao106 t161.length co106)).heap[gb156]? = some (.cells #[.int .i64 a0_0, .slice A0_1 l0_1.length c0_1] 47 (0, 0))) := ⟨by (with_reducible repeat (first | refine blk_drewN ?_ _ | refine blk_drew ?_ | refine blk_alloc ?_ _)); refine blk_far ?_ NB156_165.out _; (with_reducible repeat (first | refine blk_drewN ?_ _ | refine blk_drew ?_ | refine blk_alloc ?_ _)); refine blk_far ?_ NB156_165.out _; (with_reducible repeat (first | refine blk_drewN ?_ _ | refine blk_drew ?_ | refine blk_alloc ?_ _)); exact BK156.out⟩
           have n2_ : Aside0 (((w103.setCell ⟨gb165, 0, none⟩ (.int .i64 t160)).setCell ⟨gb165, 1, none⟩ (.slice Ao106 t161.length co106)).heap[gb165]? = some (.cells #[.int .i64 t160, .slice Ao106 t161.length co106] 47 (0, 0))) := ⟨by (with_reducible repeat (first | refine blk_drewN ?_ _ | refine blk_drew ?_ | refine blk_alloc ?_ _)); refine blk_put (cs := #[.int .i64 t160, .slice none 0 0]) ?_ 1 _ rfl; (with_reducible repeat (first | refine blk_drewN ?_ _ | refine blk_drew ?_ | refine blk_alloc ?_ _)); refine blk_put (cs := #[.int .i64 0, .slice none 0 0]) ?_ 0 _ rfl; (with_reducible repeat (first | refine blk_drewN ?_ _ | refine blk_drew ?_ | refine blk_alloc ?_ _)); exact BK165.out⟩
           have n3_ : Aside0 (Below w.heap.size w ((w103.setCell ⟨gb165, 0, none⟩ (.int .i64 t160)).setCell ⟨gb165, 1, none⟩ (.slice Ao106 t161.length co106))) := ⟨by repeat (first | (with_reducible first | exact HB.out | apply below_alloc | apply pw_below_drewN | apply below_drew1 | refine below_set ?_ GE156.out | refine below_set ?_ GE165.out) | exact HB.out)⟩
           (try clear HO163)
           (try clear BK156)
           (try clear BK165)
           (try clear HB)
           generalize ((w103.setCell ⟨gb165, 0, none⟩ (.int .i64 t160)).setCell ⟨gb165, 1, none⟩ (.slice Ao106 t161.length co106)) = w108 at n0_ n1_ n2_ n3_ ⊢
           have HO163 := n0_
           have BK156 := n1_
           have BK165 := n2_
           have HB := n3_
           clear n0_ n1_ n2_ n3_
           have n0_ := Aside0.mk (Kd.V_drew HO163.out)
           have n1_ := Aside0.mk (blk_drew BK156.out)
           have n2_ := Aside0.mk (blk_drew BK165.out)
           have n3_ := Aside0.mk (below_drew1 HB.out)
           clear HO163
           clear BK156
           clear BK165
           clear HB
           have HO163 := n0_
           have BK156 := n1_
           have BK165 := n2_
           have HB := n3_
           clear n0_ n1_ n2_ n3_
           refine start_ (n := 17) (S := fun w' => w'.cell? ⟨gb165, 0, none⟩ = some (.int .i64 t160) /\ w'.cell? ⟨gb165, 1, none⟩ = some (.slice Ao106 t161.length co106) /\ w'.cell? ⟨gb156, 0, none⟩ = some (.int .i64 a0_0) /\ w'.cell? ⟨gb156, 1, none⟩ = some (.slice A0_1 l0_1.length c0_1)) (ds := []) #[false, false, false, false, false, false, false, false, false, false, false, false, false, false, false, false, false] q_10 rfl rfl ⟨(blk_cell BK165.out 0).trans rfl, (blk_cell BK165.out 1).trans rfl, (blk_cell BK156.out 0).trans rfl, (blk_cell BK156.out 1).trans rfl⟩ (fun hHeld => ?_); refine with_tabW batonlaw31_OutboxPuts.tab15 batonlaw31_OutboxPuts.bits15 (fun HT_ HW_ => ?_)
           generalize w108.drew = w109 at HO163 BK156 BK165 HB hHeld ⊢
           refine pure_ (i := 0) (N := some 71) (v := ?_) (a' := ?_) #[true, false, false, false, false, false, false, false, false, false, false, false, false, false, false, false, false] rfl rfl (any_of HT_.out q_10) (fun _ _ _ h => h) (Or.inl ⟨by rfl, ?_⟩) ?_ ?_
           rotate_left
           ·intro w'
            go_simp
            with_reducible rfl
           rotate_left
           ·simp only [Act.put, List.setIfInBounds_toArray, List.set_cons_zero, List.set_cons_succ, i64_w, i32_w]
            rfl
           refine pure_ (i := 1) (N := some 72) (v := ?_) (a' := ?_) #[true, true, false, false, false, false, false, false, false, false, false, false, false, false, false, false, false] rfl rfl (any_of HT_.out q_10) (fun _ _ _ h => h) (Or.inl ⟨by rfl, ?_⟩) ?_ ?_
           rotate_left
           ·intro w'
            go_simp
            with_reducible rfl
           rotate_left
           ·simp only [Act.put, List.setIfInBounds_toArray, List.set_cons_zero, List.set_cons_succ, i64_w, i32_w]
            rfl
           refine pure_ (i := 2) (N := some 73) (v := ?_) (a' := ?_) #[true, true, true, false, false, false, false, false, false, false, false, false, false, false, false, false, false] rfl rfl (any_of HT_.out q_10) (fun _ _ _ h => h) (Or.inl ⟨by rfl, ?_⟩) ?_ ?_
           rotate_left
           ·intro w'
            go_simp
            with_reducible rfl
           rotate_left
           ·simp only [Act.put, List.setIfInBounds_toArray, List.set_cons_zero, List.set_cons_succ, i64_w, i32_w]
            rfl
           refine take_ (i := 3) (N := some 74) (v := ?_) (a' := ?_) #[true, true, true, true, false, false, false, false, false, false, false, false, false, false, false, false, false] rfl rfl (take_ofW HT_.out HW_.out q_10) (fun _ _ _ h => h) (Or.inl ⟨by rfl, ?_⟩) hHeld ?_ ?_
           rotate_left
           ·rintro w' ⟨s0, s1, s2, s3⟩
            go_simp
            with_reducible rfl
           rotate_left
           ·simp only [Act.put, List.setIfInBounds_toArray, List.set_cons_zero, List.set_cons_succ, i64_w, i32_w]
            rfl
           refine take_ (i := 5) (N := some 76) (v := ?_) (a' := ?_) #[true, true, true, true, false, true, false, false, false, false, false, false, false, false, false, false, false] rfl rfl (take_ofW HT_.out HW_.out q_10) (fun _ _ _ h => h) (Or.inl ⟨by rfl, ?_⟩) hHeld ?_ ?_
           rotate_left
           ·rintro w' ⟨s0, s1, s2, s3⟩
            go_simp
            with_reducible rfl
           rotate_left
           ·simp only [Act.put, List.setIfInBounds_toArray, List.set_cons_zero, List.set_cons_succ, i64_w, i32_w]
            rfl
           refine one_ (i := 4) (N := some 75) #[true, true, true, true, true, true, false, false, false, false, false, false, false, false, false, false, false] rfl rfl (one_of HT_.out q_10) q_22 (fun K hK => ?_)
           refine goes_ Try.func31 q_10 rfl #[.agg #[.int .i64 t160, .slice Ao106 t161.length co106]] (by rfl) rfl rfl q_4 ?_
           with_reducible refine (batonlaw31_keys.calls kj4 t160 _ _ t161 t173 _ ?side1 ?side2 A76.out).mono ?_
           (case side1 => repeat (first | exact (Kd.V_reads' HO163.out).2.2 | (with_reducible refine Kd.C_alloc ?_ _) | (with_reducible refine Kd.C_drewN ?_ _) | (with_reducible refine Kd.C_drew ?_)))
           (case side2 => exact (Kd.V_reads' HO163.out).2.1)
           rintro e w110 ⟨v174, rfl, ho0, hb⟩
           refine ⟨_, rfl, ?_⟩
           have n0_ := Aside0.mk (Kd.V_elder' q_6 (Kd.R_base ho0) hb)
           have n1_ := Aside0.mk (Kd.R_lower ho0 (below_size q_2))
           have n2_ := Aside0.mk (blk_below (g := gb156) (o := .cells #[.int .i64 a0_0, .slice A0_1 l0_1.length c0_1] 47 (0, 0)) q_3 hb)
           have n3_ := Aside0.mk (blk_below (g := gb165) (o := .cells #[.int .i64 t160, .slice Ao106 t161.length co106] 47 (0, 0)) q_5 hb)
           have n4_ := Aside0.mk (below_step q_2 hb)
           clear HO163
           clear BK156
           clear BK165
           clear HB
           have HO163 := n0_
           have HO175 := n1_
           have BK156 := n2_
           have BK165 := n3_
           have HB := n4_
           clear n0_ n1_ n2_ n3_ n4_
           (try clear hb)
           (try clear hb2)
           (try clear hk)
           (try clear hi)
           (try clear ho0)
           refine hK.out _ _ ⟨(blk_cell BK165.out 0).trans rfl, (blk_cell BK165.out 1).trans rfl, (blk_cell BK156.out 0).trans rfl, (blk_cell BK156.out 1).trans rfl⟩ (fun hHeld => ?_)
           clear hK K
           refine norm_ (a' := ?_) ?_ ?_
           rotate_left
           ·show Act.put _ (some 75) _ = _
            simp only [Act.put, List.setIfInBounds_toArray, List.set_cons_zero, List.set_cons_succ, i64_w, i32_w]
            rfl
           refine one_ (i := 6) (N := some 77) #[true, true, true, true, true, true, true, false, false, false, false, false, false, false, false, false, false] rfl rfl (one_of HT_.out q_10) q_22 (fun K hK => ?_)
           refine goes_ Try.func31 q_10 rfl #[.agg #[.int .i64 a0_0, .slice A0_1 l0_1.length c0_1]] (by rfl) rfl rfl q_4 ?_
           with_reducible refine (batonlaw31_keys.calls kj4 a0_0 _ _ l0_1 t176 _ ?side1 ?side2 A77.out).mono ?_
           (case side1 => repeat (first | exact (Kd.C_below HR0_1.out HB.out) | (with_reducible refine Kd.C_alloc ?_ _) | (with_reducible refine Kd.C_drewN ?_ _) | (with_reducible refine Kd.C_drew ?_)))
           (case side2 => exact HC0_1.out)
           rintro e w111 ⟨v177, rfl, ho0, hb⟩
           refine ⟨_, rfl, ?_⟩
           have n0_ := Aside0.mk (Kd.V_elder' q_6 (Kd.R_base ho0) hb)
           have n1_ := Aside0.mk (Kd.R_elder' q_23 (Kd.R_base ho0) hb)
           have n2_ := Aside0.mk (Kd.R_lower (Kd.R_new' ho0 (Kd.R_lt q_23)) (below_size q_2))
           have n3_ := Aside0.mk (blk_below (g := gb156) (o := .cells #[.int .i64 a0_0, .slice A0_1 l0_1.length c0_1] 47 (0, 0)) q_3 hb)
           have n4_ := Aside0.mk (blk_below (g := gb165) (o := .cells #[.int .i64 t160, .slice Ao106 t161.length co106] 47 (0, 0)) q_5 hb)
           have n5_ := Aside0.mk (below_step q_2 hb)
           clear HO163
           clear HO175
           clear BK156
           clear BK165
           clear HB
           have HO163 := n0_
           have HO175 := n1_
           have HO178 := n2_
           have BK156 := n3_
           have BK165 := n4_
           have HB := n5_
           clear n0_ n1_ n2_ n3_ n4_ n5_
           (try clear hb)
           (try clear hb2)
           (try clear hk)
           (try clear hi)
           (try clear ho0)
           obtain ⟨Ao112, co112, eo112⟩ := Kd.R_slice HO175.out
           (first | subst eo112 | (injection eo112 with f1_ f2_ f3_; have f4_ := f1_.symm; have f5_ := f3_.symm; clear f1_ f2_ f3_; subst f4_; subst f5_))
           obtain ⟨Ao113, co113, eo113⟩ := Kd.R_slice HO178.out
           (first | subst eo113 | (injection eo113 with f1_ f2_ f3_; have f4_ := f1_.symm; have f5_ := f3_.symm; clear f1_ f2_ f3_; subst f4_; subst f5_))
           refine hK.out _ _ ⟨(blk_cell BK165.out 0).trans rfl, (blk_cell BK165.out 1).trans rfl, (blk_cell BK156.out 0).trans rfl, (blk_cell BK156.out 1).trans rfl⟩ (fun hHeld => ?_)
           clear hK K
           refine norm_ (a' := ?_) ?_ ?_
           rotate_left
           ·show Act.put _ (some 77) _ = _
            simp only [Act.put, List.setIfInBounds_toArray, List.set_cons_zero, List.set_cons_succ, i64_w, i32_w]
            rfl
           refine one_ (i := 7) (N := some 78) #[true, true, true, true, true, true, true, true, false, false, false, false, false, false, false, false, false] rfl rfl (one_of HT_.out q_10) q_22 (fun K hK => ?_)
           refine goes_ Try.func30 q_10 rfl #[.slice Ao112 t173.length co112, .slice Ao113 t176.length co113] (by rfl) rfl rfl q_4 ?_
           with_reducible refine (batonref31_Same.calls kj4 _ _ t173 _ _ t176 false _ ?side1 ?side2 ?side3 ?side4 A78.out).mono ?_
           (case side1 => repeat (first | exact (Kd.R_reads' HO175.out).2.2 | (with_reducible refine Kd.C_alloc ?_ _) | (with_reducible refine Kd.C_drewN ?_ _) | (with_reducible refine Kd.C_drew ?_)))
           (case side2 => exact (Kd.R_reads' HO175.out).2.1)
           (case side3 => repeat (first | exact (Kd.R_reads' HO178.out).2.2 | (with_reducible refine Kd.C_alloc ?_ _) | (with_reducible refine Kd.C_drewN ?_ _) | (with_reducible refine Kd.C_drew ?_)))
           (case side4 => exact (Kd.R_reads' HO178.out).2.1)
           rintro e w' ⟨rfl, ⟨nd, rfl⟩⟩
           refine ⟨_, rfl, ?_⟩
           refine hK.out _ _ ⟨(blk_cell BK165.out 0).trans rfl, (blk_cell BK165.out 1).trans rfl, (blk_cell BK156.out 0).trans rfl, (blk_cell BK156.out 1).trans rfl⟩ (fun hHeld => ?_)
           clear hK K
           refine norm_ (a' := ?_) ?_ ?_
           rotate_left
           ·show Act.put _ (some 78) _ = _
            simp only [Act.put, List.setIfInBounds_toArray, List.set_cons_zero, List.set_cons_succ, i64_w, i32_w]
            rfl
           refine pure_ (i := 8) (N := some 79) (v := ?_) (a' := ?_) #[true, true, true, true, true, true, true, true, true, false, false, false, false, false, false, false, false] rfl rfl (any_of HT_.out q_10) (fun _ _ _ h => h) (Or.inl ⟨by rfl, ?_⟩) ?_ ?_
           rotate_left
           ·intro w'
            go_simp
            with_reducible rfl
           rotate_left
           ·simp only [Act.put, List.setIfInBounds_toArray, List.set_cons_zero, List.set_cons_succ, i64_w, i32_w]
            rfl
           refine pure_ (i := 9) (N := some 80) (v := ?_) (a' := ?_) #[true, true, true, true, true, true, true, true, true, true, false, false, false, false, false, false, false] rfl rfl (any_of HT_.out q_10) (fun _ _ _ h => h) (Or.inl ⟨by rfl, ?_⟩) ?_ ?_
           rotate_left
           ·intro w'
            go_simp
            with_reducible rfl
           rotate_left
           ·simp only [Act.put, List.setIfInBounds_toArray, List.set_cons_zero, List.set_cons_succ, i64_w, i32_w]
            rfl
           refine pure_ (i := 10) (N := some 81) (v := undef) (a' := ?_) #[true, true, true, true, true, true, true, true, true, true, true, false, false, false, false, false, false] rfl rfl (any_of HT_.out q_10) (fun _ _ _ h => h) (Or.inr ⟨by rfl, rfl⟩) ?_ ?_
           rotate_left
           ·simp only [Act.put, List.setIfInBounds_toArray, List.set_cons_zero, List.set_cons_succ, i64_w, i32_w]
            rfl
           refine pure_ (i := 11) (N := some 82) (v := undef) (a' := ?_) #[true, true, true, true, true, true, true, true, true, true, true, true, false, false, false, false, false] rfl rfl (any_of HT_.out q_10) (fun _ _ _ h => h) (Or.inr ⟨by rfl, rfl⟩) ?_ ?_
           rotate_left
           ·simp only [Act.put, List.setIfInBounds_toArray, List.set_cons_zero, List.set_cons_succ, i64_w, i32_w]
            rfl
           refine pure_ (i := 12) (N := some 83) (v := undef) (a' := ?_) #[true, true, true, true, true, true, true, true, true, true, true, true, true, false, false, false, false] rfl rfl (any_of HT_.out q_10) (fun _ _ _ h => h) (Or.inr ⟨by rfl, rfl⟩) ?_ ?_
           rotate_left
           ·simp only [Act.put, List.setIfInBounds_toArray, List.set_cons_zero, List.set_cons_succ, i64_w, i32_w]
            rfl
           refine pure_ (i := 13) (N := some 84) (v := undef) (a' := ?_) #[true, true, true, true, true, true, true, true, true, true, true, true, true, true, false, false, false] rfl rfl (any_of HT_.out q_10) (fun _ _ _ h => h) (Or.inr ⟨by rfl, rfl⟩) ?_ ?_
           rotate_left
           ·simp only [Act.put, List.setIfInBounds_toArray, List.set_cons_zero, List.set_cons_succ, i64_w, i32_w]
            rfl
           refine pure_ (i := 14) (N := some 85) (v := undef) (a' := ?_) #[true, true, true, true, true, true, true, true, true, true, true, true, true, true, true, false, false] rfl rfl (any_of HT_.out q_10) (fun _ _ _ h => h) (Or.inr ⟨by rfl, rfl⟩) ?_ ?_
           rotate_left
           ·simp only [Act.put, List.setIfInBounds_toArray, List.set_cons_zero, List.set_cons_succ, i64_w, i32_w]
            rfl
           refine pure_ (i := 15) (N := some 86) (v := ?_) (a' := ?_) #[true, true, true, true, true, true, true, true, true, true, true, true, true, true, true, true, false] rfl rfl (any_of HT_.out q_10) (fun _ _ _ h => h) (Or.inl ⟨by rfl, ?_⟩) ?_ ?_
           rotate_left
           ·intro w'
            go_simp
            with_reducible rfl
           rotate_left
           ·simp only [Act.put, List.setIfInBounds_toArray, List.set_cons_zero, List.set_cons_succ, i64_w, i32_w]
            rfl
           refine pure_ (i := 16) (N := some 4) (v := ?_) (a' := ?_) #[true, true, true, true, true, true, true, true, true, true, true, true, true, true, true, true, true] rfl rfl (any_of HT_.out q_10) (fun _ _ _ h => h) (Or.inl ⟨by rfl, ?_⟩) ?_ ?_
           rotate_left
           ·intro w'
            go_simp
            with_reducible rfl
           rotate_left
           ·simp only [Act.put, List.setIfInBounds_toArray, List.set_cons_zero, List.set_cons_succ, i64_w, i32_w]
            rfl
           refine done_ (done_of HT_.out q_10) ?_
           try go_wp2
           go_ret
           exact ⟨by first | rfl | (simp [errW_none, errW_some] <;> rfl) | (simp [*, errW_none, errW_some] <;> rfl), by repeat (first | (with_reducible first | exact HB.out | apply below_alloc | apply pw_below_drewN | apply below_drew1 | refine below_set ?_ GE156.out | refine below_set ?_ GE165.out) | exact HB.out)⟩
         ·rw [if_neg c75] at H
          have c75b0 : (t164 == 16) = false := beq_eq_false_iff_ne.mpr c75
          have c75b1 : (t164 != 16) = true := bne_iff_ne.mpr c75
          obtain rfl := Option.some.inj H
          have hcz114_0 : wc.cell? ⟨gb156, 0, none⟩ = some (.int .i64 a0_0) := (blk_cell BK156.out 0).trans rfl
          have hcz114_1 : wc.cell? ⟨gb156, 1, none⟩ = some (.slice A0_1 l0_1.length c0_1) := (blk_cell BK156.out 1).trans rfl
          have hfz114_0 := blk_frozen BK156.out 0
          have hfz114_1 := blk_frozen BK156.out 1
          try go_wp2_with (first | ((with_reducible refine gate_callee (f := 28) rfl ?_); refine goesL_ (some 22) rfl rfl Try.func28 q_10 rfl #[.agg #[.int .i64 a0_0, .slice A0_1 l0_1.length c0_1]] rfl q_4 ?_; (with_reducible refine (batonlaw31_right.calls a0_0 _ _ l0_1 true _ ?side1 ?side2 A12.out).mono ?_); (case side1 => repeat (first | exact (Kd.C_below HR0_1.out HB.out) | (with_reducible refine Kd.C_alloc ?_ _) | (with_reducible refine Kd.C_drewN ?_ _) | (with_reducible refine Kd.C_drew ?_))); (case side2 => exact HC0_1.out); rintro e w115 ⟨rfl, hb⟩; refine ⟨_, rfl, ?_⟩; have n0_ := Aside0.mk (blk_below (g := gb156) (o := .cells #[.int .i64 a0_0, .slice A0_1 l0_1.length c0_1] 47 (0, 0)) q_3 hb); have n1_ := Aside0.mk (below_step q_1 hb); clear BK156; clear HB; have BK156 := n0_; have HB := n1_; clear n0_ n1_; (try clear hb); (try clear hb2); (try clear hk); (try clear hi); have hcz116_0 : w115.cell? ⟨gb156, 0, none⟩ = some (.int .i64 a0_0) := (blk_cell BK156.out 0).trans rfl; have hcz116_1 : w115.cell? ⟨gb156, 1, none⟩ = some (.slice A0_1 l0_1.length c0_1) := (blk_cell BK156.out 1).trans rfl; have hfz116_0 := blk_frozen BK156.out 0; have hfz116_1 := blk_frozen BK156.out 1) | ((with_reducible refine gate_callee (f := 29) rfl ?_); refine goesL_ (some 24) rfl rfl Try.func29 q_10 rfl #[.agg #[.int .i64 a0_0, .slice A0_1 l0_1.length c0_1]] rfl q_4 ?_; (with_reducible refine (outbox_Right.calls a0_0 _ _ l0_1 t159 _ ?side1 ?side2 A13.out).mono ?_); (case side1 => repeat (first | exact (Kd.C_below HR0_1.out HB.out) | (with_reducible refine Kd.C_alloc ?_ _) | (with_reducible refine Kd.C_drewN ?_ _) | (with_reducible refine Kd.C_drew ?_))); (case side2 => exact HC0_1.out); rintro e w117 ⟨rfl, hb⟩; refine ⟨_, rfl, ?_⟩; have n0_ := Aside0.mk (blk_below (g := gb156) (o := .cells #[.int .i64 a0_0, .slice A0_1 l0_1.length c0_1] 47 (0, 0)) q_3 hb); have n1_ := Aside0.mk (below_step q_1 hb); clear BK156; clear HB; have BK156 := n0_; have HB := n1_; clear n0_ n1_; (try clear hb); (try clear hb2); (try clear hk); (try clear hi); have hcz118_0 : w117.cell? ⟨gb156, 0, none⟩ = some (.int .i64 a0_0) := (blk_cell BK156.out 0).trans rfl; have hcz118_1 : w117.cell? ⟨gb156, 1, none⟩ = some (.slice A0_1 l0_1.length c0_1) := (blk_cell BK156.out 1).trans rfl; have hfz118_0 := blk_frozen BK156.out 0; have hfz118_1 := blk_frozen BK156.out 1) | ((with_reducible refine gate_callee (f := 27) rfl ?_); refine goesL_ (some 38) rfl rfl Try.func27 q_10 rfl #[.agg #[.int .i64 a0_0, .slice A0_1 l0_1.length c0_1], .slice A1 l1.length c1] rfl q_4 ?_; (with_reducible refine (outbox_Put.calls kj4 a0_0 (fun k_ => k_ < w.heap.size) _ _ l0_1 (fun k_ => k_ < w.heap.size) _ _ l1 t160 t161 t164 _ ?side1 ?side2 A20.out).mono ?_); (case side1 => exact Kd.V_mk HC0_1.out (Kd.F_below (Kd.C_F (Kd.heap_int .u8) HR0_1.out) q_1)); (case side2 => exact Kd.V_mk HC1.out (Kd.F_below (Kd.C_F (Kd.heap_int .u8) HR1.out) q_1)); rintro e w119 ⟨v162, rfl, ho0, hb⟩; refine ⟨_, rfl, ?_⟩; have n0_ := Aside0.mk (Kd.V_lower (Kd.V_mono (ok' := fun k_ => k_ ≠ gb156) ho0 (fun k_ hk_ => Or.elim hk_ (fun hs_ => Or.elim hs_ (fun hs_ => fun e_ => Nat.not_le.2 hs_ q_21) (fun hs_ => fun e_ => Nat.not_le.2 hs_ q_21)) (fun hn_ => (Kd.freshB (g := gb156) (o := .cells #[.int .i64 a0_0, .slice A0_1 l0_1.length c0_1] 47 (0, 0)) q_3 k_ hn_)))) (below_size q_1)); have n1_ := Aside0.mk (blk_below (g := gb156) (o := .cells #[.int .i64 a0_0, .slice A0_1 l0_1.length c0_1] 47 (0, 0)) q_3 hb); have n2_ := Aside0.mk (below_step q_1 hb); clear BK156; clear HB; have HO163 := n0_; have BK156 := n1_; have HB := n2_; clear n0_ n1_ n2_; (try clear hb); (try clear hb2); (try clear hk); (try clear hi); (try clear ho0)) | ((with_reducible refine gate_dst (N := 7) rfl ?_); (try (refine gate_guard (by rfl) ?_; dsimp only)); refine box_event ?hg (N := 7) ?hd (cs := #[.int .i64 0, .slice none 0 0]) (t := 47) ?hr ?_; (case hd => rfl); (case hg => rfl); (case hr => first | (go_simp; done) | (go_simp; rfl)); intro gb165 hg w120 hbox hb; have n0_ := Aside0.mk (Kd.V_below (Kd.V_elderB q_6 gb165 (Nat.le_of_eq hg.symm)) hb); have n1_ := Aside0.mk (blk_below (g := gb156) (o := .cells #[.int .i64 a0_0, .slice A0_1 l0_1.length c0_1] 47 (0, 0)) q_3 hb); have n2_ := Aside0.mk (below_step q_1 hb); have n3_ := Aside0.mk (hbox); have n4_ := Aside0.mk ((by rw [hg]; exact (below_size q_1) : w.heap.size <= gb165)); have n5_ := Aside0.mk ((by rw [hg]; exact (below_size q_1) : w.heap.size <= gb165)); have n6_ := Aside0.mk ((by rw [hg]; exact Nat.ne_of_lt (blk_lt (g := gb156) (o := .cells #[.int .i64 a0_0, .slice A0_1 l0_1.length c0_1] 47 (0, 0)) q_3) : gb156 ≠ gb165)); have n7_ := Aside0.mk ((by rw [hg]; exact Nat.ne_of_gt (blk_lt (g := gb156) (o := .cells #[.int .i64 a0_0, .slice A0_1 l0_1.length c0_1] 47 (0, 0)) q_3) : gb165 ≠ gb156)); clear HO163; clear BK156; clear HB; have HO163 := n0_; have BK156 := n1_; have HB := n2_; have BK165 := n3_; have GW165 := n4_; have GE165 := n5_; have NB156_165 := n6_; have NB165_156 := n7_; clear n0_ n1_ n2_ n3_ n4_ n5_ n6_ n7_; clear hb hbox hg; have hnb121 := NB165_156.out; have hnc121 := NB156_165.out; have hcz122_0 : w120.cell? ⟨gb165, 0, none⟩ = some (.int .i64 0) := (blk_cell BK165.out 0).trans rfl; have hcz122_1 : w120.cell? ⟨gb165, 1, none⟩ = some (.slice none 0 0) := (blk_cell BK165.out 1).trans rfl; have hfz122_0 := blk_frozen BK165.out 0; have hfz122_1 := blk_frozen BK165.out 1; obtain ⟨Ao123, co123, eo123⟩ := Kd.V_slice HO163.out; subst eo123; have hcz124_0 : w120.cell? ⟨gb156, 0, none⟩ = some (.int .i64 a0_0) := (blk_cell BK156.out 0).trans rfl; have hcz124_1 : w120.cell? ⟨gb156, 1, none⟩ = some (.slice A0_1 l0_1.length c0_1) := (blk_cell BK156.out 1).trans rfl; have hfz124_0 := blk_frozen BK156.out 0; have hfz124_1 := blk_frozen BK156.out 1))
          have n0_ : Aside0 (Kd.V (Kd.int .u8) 5 ((w120.setCell ⟨gb165, 0, none⟩ (.int .i64 t160)).setCell ⟨gb165, 1, none⟩ (.slice Ao123 t161.length co123)) w.heap.size (fun k_ => k_ ≠ gb156 /\ k_ ≠ gb165) (.slice Ao123 t161.length co123) t161) := ⟨by (with_reducible repeat (first | apply Kd.V_alloc | apply Kd.V_drewN | apply Kd.V_drew)); exact Kd.V_mono (Kd.V_far (p := ⟨gb165, 1, none⟩) (Kd.V_far (p := ⟨gb165, 0, none⟩) (Kd.V_mono HO163.out (fun k_ hk => (⟨hk, hk.2⟩ : _ /\ k_ ≠ gb165))) (fun _ hk => hk.2) (.int .i64 t160)) (fun _ hk => hk.2) (.slice Ao123 t161.length co123)) (fun _ hk => ⟨hk.1.1, hk.1.2⟩)⟩
          have n1_ : Aside0 (((w120.setCell ⟨gb165, 0, none⟩ (.int .i64 t160)).setCell ⟨gb165, 1, none⟩ (.slice Ao123 t161.length co123)).heap[gb156]? = some (.cells #[.int .i64 a0_0, .slice A0_1 l0_1.length c0_1] 47 (0, 0))) := ⟨by (with_reducible repeat (first | refine blk_drewN ?_ _ | refine blk_drew ?_ | refine blk_alloc ?_ _)); refine blk_far ?_ NB156_165.out _; (with_reducible repeat (first | refine blk_drewN ?_ _ | refine blk_drew ?_ | refine blk_alloc ?_ _)); refine blk_far ?_ NB156_165.out _; (with_reducible repeat (first | refine blk_drewN ?_ _ | refine blk_drew ?_ | refine blk_alloc ?_ _)); exact BK156.out⟩
          have n2_ : Aside0 (((w120.setCell ⟨gb165, 0, none⟩ (.int .i64 t160)).setCell ⟨gb165, 1, none⟩ (.slice Ao123 t161.length co123)).heap[gb165]? = some (.cells #[.int .i64 t160, .slice Ao123 t161.length co123] 47 (0, 0))) := ⟨by (with_reducible repeat (first | refine blk_drewN ?_ _ | refine blk_drew ?_ | refine blk_alloc ?_ _)); refine blk_put (cs := #[.int .i64 t160, .slice none 0 0]) ?_ 1 _ rfl; (with_reducible repeat (first | refine blk_drewN ?_ _ | refine blk_drew ?_ | refine blk_alloc ?_ _)); refine blk_put (cs := #[.int .i64 0, .slice none 0 0]) ?_ 0 _ rfl; (with_reducible repeat (first | refine blk_drewN ?_ _ | refine blk_drew ?_ | refine blk_alloc ?_ _)); exact BK165.out⟩
          have n3_ : Aside0 (Below w.heap.size w ((w120.setCell ⟨gb165, 0, none⟩ (.int .i64 t160)).setCell ⟨gb165, 1, none⟩ (.slice Ao123 t161.length co123))) := ⟨by repeat (first | (with_reducible first | exact HB.out | apply below_alloc | apply pw_below_drewN | apply below_drew1 | refine below_set ?_ GE156.out | refine below_set ?_ GE165.out) | exact HB.out)⟩
          (try clear HO163)
          (try clear BK156)
          (try clear BK165)
          (try clear HB)
          generalize ((w120.setCell ⟨gb165, 0, none⟩ (.int .i64 t160)).setCell ⟨gb165, 1, none⟩ (.slice Ao123 t161.length co123)) = w125 at n0_ n1_ n2_ n3_ ⊢
          have HO163 := n0_
          have BK156 := n1_
          have BK165 := n2_
          have HB := n3_
          clear n0_ n1_ n2_ n3_
          have n0_ := Aside0.mk (Kd.V_drew HO163.out)
          have n1_ := Aside0.mk (blk_drew BK156.out)
          have n2_ := Aside0.mk (blk_drew BK165.out)
          have n3_ := Aside0.mk (below_drew1 HB.out)
          clear HO163
          clear BK156
          clear BK165
          clear HB
          have HO163 := n0_
          have BK156 := n1_
          have BK165 := n2_
          have HB := n3_
          clear n0_ n1_ n2_ n3_
          refine start_ (n := 17) (S := fun w' => True) (ds := []) #[false, false, false, false, false, false, false, false, false, false, false, false, false, false, false, false, false] q_10 rfl rfl trivial (fun hHeld => ?_); refine with_tabW batonlaw31_OutboxPuts.tab15 batonlaw31_OutboxPuts.bits15 (fun HT_ HW_ => ?_)
          generalize w125.drew = w126 at HO163 BK156 BK165 HB hHeld ⊢
          refine pure_ (i := 0) (N := some 71) (v := ?_) (a' := ?_) #[true, false, false, false, false, false, false, false, false, false, false, false, false, false, false, false, false] rfl rfl (any_of HT_.out q_10) (fun _ _ _ h => h) (Or.inl ⟨by rfl, ?_⟩) ?_ ?_
          rotate_left
          ·intro w'
           go_simp
           with_reducible rfl
          rotate_left
          ·simp only [Act.put, List.setIfInBounds_toArray, List.set_cons_zero, List.set_cons_succ, i64_w, i32_w]
           rfl
          refine pure_ (i := 1) (N := some 72) (v := ?_) (a' := ?_) #[true, true, false, false, false, false, false, false, false, false, false, false, false, false, false, false, false] rfl rfl (any_of HT_.out q_10) (fun _ _ _ h => h) (Or.inl ⟨by rfl, ?_⟩) ?_ ?_
          rotate_left
          ·intro w'
           go_simp
           with_reducible rfl
          rotate_left
          ·simp only [Act.put, List.setIfInBounds_toArray, List.set_cons_zero, List.set_cons_succ, i64_w, i32_w]
           rfl
          refine pure_ (i := 2) (N := some 73) (v := ?_) (a' := ?_) #[true, true, true, false, false, false, false, false, false, false, false, false, false, false, false, false, false] rfl rfl (any_of HT_.out q_10) (fun _ _ _ h => h) (Or.inl ⟨by rfl, ?_⟩) ?_ ?_
          rotate_left
          ·intro w'
           go_simp
           with_reducible rfl
          rotate_left
          ·simp only [Act.put, List.setIfInBounds_toArray, List.set_cons_zero, List.set_cons_succ, i64_w, i32_w]
           rfl
          refine pure_ (i := 3) (N := some 74) (v := undef) (a' := ?_) #[true, true, true, true, false, false, false, false, false, false, false, false, false, false, false, false, false] rfl rfl (any_of HT_.out q_10) (fun _ _ _ h => h) (Or.inr ⟨by rfl, rfl⟩) ?_ ?_
          rotate_left
          ·simp only [Act.put, List.setIfInBounds_toArray, List.set_cons_zero, List.set_cons_succ, i64_w, i32_w]
           rfl
          refine pure_ (i := 4) (N := some 75) (v := undef) (a' := ?_) #[true, true, true, true, true, false, false, false, false, false, false, false, false, false, false, false, false] rfl rfl (any_of HT_.out q_10) (fun _ _ _ h => h) (Or.inr ⟨by rfl, rfl⟩) ?_ ?_
          rotate_left
          ·simp only [Act.put, List.setIfInBounds_toArray, List.set_cons_zero, List.set_cons_succ, i64_w, i32_w]
           rfl
          refine pure_ (i := 5) (N := some 76) (v := undef) (a' := ?_) #[true, true, true, true, true, true, false, false, false, false, false, false, false, false, false, false, false] rfl rfl (any_of HT_.out q_10) (fun _ _ _ h => h) (Or.inr ⟨by rfl, rfl⟩) ?_ ?_
          rotate_left
          ·simp only [Act.put, List.setIfInBounds_toArray, List.set_cons_zero, List.set_cons_succ, i64_w, i32_w]
           rfl
          refine pure_ (i := 6) (N := some 77) (v := undef) (a' := ?_) #[true, true, true, true, true, true, true, false, false, false, false, false, false, false, false, false, false] rfl rfl (any_of HT_.out q_10) (fun _ _ _ h => h) (Or.inr ⟨by rfl, rfl⟩) ?_ ?_
          rotate_left
          ·simp only [Act.put, List.setIfInBounds_toArray, List.set_cons_zero, List.set_cons_succ, i64_w, i32_w]
           rfl
          refine pure_ (i := 7) (N := some 78) (v := undef) (a' := ?_) #[true, true, true, true, true, true, true, true, false, false, false, false, false, false, false, false, false] rfl rfl (any_of HT_.out q_10) (fun _ _ _ h => h) (Or.inr ⟨by rfl, rfl⟩) ?_ ?_
          rotate_left
          ·simp only [Act.put, List.setIfInBounds_toArray, List.set_cons_zero, List.set_cons_succ, i64_w, i32_w]
           rfl
          refine pure_ (i := 8) (N := some 79) (v := ?_) (a' := ?_) #[true, true, true, true, true, true, true, true, true, false, false, false, false, false, false, false, false] rfl rfl (any_of HT_.out q_10) (fun _ _ _ h => h) (Or.inl ⟨by rfl, ?_⟩) ?_ ?_
          rotate_left
          ·intro w'
           go_simp
           with_reducible rfl
          rotate_left
          ·simp only [Act.put, List.setIfInBounds_toArray, List.set_cons_zero, List.set_cons_succ, i64_w, i32_w]
           rfl
          refine pure_ (i := 9) (N := some 80) (v := ?_) (a' := ?_) #[true, true, true, true, true, true, true, true, true, true, false, false, false, false, false, false, false] rfl rfl (any_of HT_.out q_10) (fun _ _ _ h => h) (Or.inl ⟨by rfl, ?_⟩) ?_ ?_
          rotate_left
          ·intro w'
           go_simp
           with_reducible rfl
          rotate_left
          ·simp only [Act.put, List.setIfInBounds_toArray, List.set_cons_zero, List.set_cons_succ, i64_w, i32_w]
           rfl
          refine pure_ (i := 10) (N := some 81) (v := undef) (a' := ?_) #[true, true, true, true, true, true, true, true, true, true, true, false, false, false, false, false, false] rfl rfl (any_of HT_.out q_10) (fun _ _ _ h => h) (Or.inr ⟨by rfl, rfl⟩) ?_ ?_
          rotate_left
          ·simp only [Act.put, List.setIfInBounds_toArray, List.set_cons_zero, List.set_cons_succ, i64_w, i32_w]
           rfl
          refine pure_ (i := 11) (N := some 82) (v := undef) (a' := ?_) #[true, true, true, true, true, true, true, true, true, true, true, true, false, false, false, false, false] rfl rfl (any_of HT_.out q_10) (fun _ _ _ h => h) (Or.inr ⟨by rfl, rfl⟩) ?_ ?_
          rotate_left
          ·simp only [Act.put, List.setIfInBounds_toArray, List.set_cons_zero, List.set_cons_succ, i64_w, i32_w]
           rfl
          refine pure_ (i := 12) (N := some 83) (v := undef) (a' := ?_) #[true, true, true, true, true, true, true, true, true, true, true, true, true, false, false, false, false] rfl rfl (any_of HT_.out q_10) (fun _ _ _ h => h) (Or.inr ⟨by rfl, rfl⟩) ?_ ?_
          rotate_left
          ·simp only [Act.put, List.setIfInBounds_toArray, List.set_cons_zero, List.set_cons_succ, i64_w, i32_w]
           rfl
          refine pure_ (i := 13) (N := some 84) (v := undef) (a' := ?_) #[true, true, true, true, true, true, true, true, true, true, true, true, true, true, false, false, false] rfl rfl (any_of HT_.out q_10) (fun _ _ _ h => h) (Or.inr ⟨by rfl, rfl⟩) ?_ ?_
          rotate_left
          ·simp only [Act.put, List.setIfInBounds_toArray, List.set_cons_zero, List.set_cons_succ, i64_w, i32_w]
           rfl
          refine pure_ (i := 14) (N := some 85) (v := undef) (a' := ?_) #[true, true, true, true, true, true, true, true, true, true, true, true, true, true, true, false, false] rfl rfl (any_of HT_.out q_10) (fun _ _ _ h => h) (Or.inr ⟨by rfl, rfl⟩) ?_ ?_
          rotate_left
          ·simp only [Act.put, List.setIfInBounds_toArray, List.set_cons_zero, List.set_cons_succ, i64_w, i32_w]
           rfl
          refine pure_ (i := 15) (N := some 86) (v := ?_) (a' := ?_) #[true, true, true, true, true, true, true, true, true, true, true, true, true, true, true, true, false] rfl rfl (any_of HT_.out q_10) (fun _ _ _ h => h) (Or.inl ⟨by rfl, ?_⟩) ?_ ?_
          rotate_left
          ·intro w'
           go_simp
           with_reducible rfl
          rotate_left
          ·simp only [Act.put, List.setIfInBounds_toArray, List.set_cons_zero, List.set_cons_succ, i64_w, i32_w]
           rfl
          refine pure_ (i := 16) (N := some 4) (v := ?_) (a' := ?_) #[true, true, true, true, true, true, true, true, true, true, true, true, true, true, true, true, true] rfl rfl (any_of HT_.out q_10) (fun _ _ _ h => h) (Or.inl ⟨by rfl, ?_⟩) ?_ ?_
          rotate_left
          ·intro w'
           go_simp
           with_reducible rfl
          rotate_left
          ·simp only [Act.put, List.setIfInBounds_toArray, List.set_cons_zero, List.set_cons_succ, i64_w, i32_w]
           rfl
          refine done_ (done_of HT_.out q_10) ?_
          try go_wp2
          go_ret
          exact ⟨by first | rfl | (simp [errW_none, errW_some] <;> rfl) | (simp [*, errW_none, errW_some] <;> rfl), by repeat (first | (with_reducible first | exact HB.out | apply below_alloc | apply pw_below_drewN | apply below_drew1 | refine below_set ?_ GE156.out | refine below_set ?_ GE165.out) | exact HB.out)⟩
        ·rw [if_neg c74] at H
         have c74b0 : decide (281474976710656 < (wrap64 ((wrap64 (a0_0 + (l0_1.length : Int))) + (l1.length : Int)))) = false := decide_eq_false c74
         clear c74
         obtain ⟨y180, hy180⟩ : ∃ y_ : List (S140), y_ = (([] : List (S140))) := ⟨_, rfl⟩
         replace H : ((batonlaw31_keys.f kj4 a0_0 l0_1).bind fun t183 => (if y180.length + t183.length < 8796093022208 then ((some (y180 ++ t183 : List (S140))).bind fun y186 => ((batonref31_Keys.f kj4 (wrap64 (a0_0 + (l0_1.length : Int))) l1).bind fun t189 => (if y186.length + t189.length < 8796093022208 then (if t164 = 0 then ((outbox_Next.f a0_0 l0_1).bind fun t195 => (if t195 = (wrap64 (a0_0 + (l0_1.length : Int))) then ((outbox_Next.f t160 t161).bind fun t196 => (if t196 = (wrap64 ((wrap64 (a0_0 + (l0_1.length : Int))) + (l1.length : Int))) then (if t160 = a0_0 then ((batonlaw31_keys.f kj4 t160 t161).bind fun t197 => ((batonref31_Same.f kj4 t197 (y186 ++ t189)).bind fun t200 => (if t200 = true then ((batonlaw31_right.f t160 t161).bind fun t201 => (some t201)) else (some false)))) else (some false)) else (some false))) else (some false))) else (some false)) else (none)))) else (none))) = some r := by first | (rw [hy180]; with_reducible exact H) | (have H2_ := (Option.bind_some _ _).symm.trans H; rw [hy180]; with_reducible exact H2_) | (have H2_ := (Option.bind_some _ _).symm.trans H; with_reducible exact H2_) | with_reducible exact H | (rw [hy180]; exact H) | exact H
         have Ny180 := Aside0.mk hy180
         clear hy180
         replace H := Option.bind_eq_some_iff.mp H
         obtain ⟨t183, A1270, H⟩ := H
         replace H : (if y180.length + t183.length < 8796093022208 then ((some (y180 ++ t183 : List (S140))).bind fun y186 => ((batonref31_Keys.f kj4 (wrap64 (a0_0 + (l0_1.length : Int))) l1).bind fun t189 => (if y186.length + t189.length < 8796093022208 then (if t164 = 0 then ((outbox_Next.f a0_0 l0_1).bind fun t195 => (if t195 = (wrap64 (a0_0 + (l0_1.length : Int))) then ((outbox_Next.f t160 t161).bind fun t196 => (if t196 = (wrap64 ((wrap64 (a0_0 + (l0_1.length : Int))) + (l1.length : Int))) then (if t160 = a0_0 then ((batonlaw31_keys.f kj4 t160 t161).bind fun t197 => ((batonref31_Same.f kj4 t197 (y186 ++ t189)).bind fun t200 => (if t200 = true then ((batonlaw31_right.f t160 t161).bind fun t201 => (some t201)) else (some false)))) else (some false)) else (some false))) else (some false))) else (some false)) else (none)))) else (none)) = some r := H
         have A127 := Aside0.mk A1270
         clear A1270
         by_cases c128 : y180.length + t183.length < 8796093022208
         ·rw [if_pos c128] at H
          have LMc128 := Aside0.mk c128
          clear c128
          obtain ⟨y186, hy186⟩ : ∃ y_ : List (S140), y_ = (y180 ++ t183) := ⟨_, rfl⟩
          replace H : ((batonref31_Keys.f kj4 (wrap64 (a0_0 + (l0_1.length : Int))) l1).bind fun t189 => (if y186.length + t189.length < 8796093022208 then (if t164 = 0 then ((outbox_Next.f a0_0 l0_1).bind fun t195 => (if t195 = (wrap64 (a0_0 + (l0_1.length : Int))) then ((outbox_Next.f t160 t161).bind fun t196 => (if t196 = (wrap64 ((wrap64 (a0_0 + (l0_1.length : Int))) + (l1.length : Int))) then (if t160 = a0_0 then ((batonlaw31_keys.f kj4 t160 t161).bind fun t197 => ((batonref31_Same.f kj4 t197 (y186 ++ t189)).bind fun t200 => (if t200 = true then ((batonlaw31_right.f t160 t161).bind fun t201 => (some t201)) else (some false)))) else (some false)) else (some false))) else (some false))) else (some false)) else (none))) = some r := by first | (rw [hy186]; with_reducible exact H) | (have H2_ := (Option.bind_some _ _).symm.trans H; rw [hy186]; with_reducible exact H2_) | (have H2_ := (Option.bind_some _ _).symm.trans H; with_reducible exact H2_) | with_reducible exact H | (rw [hy186]; exact H) | exact H
          have Ny186 := Aside0.mk hy186
          clear hy186
          replace H := Option.bind_eq_some_iff.mp H
          obtain ⟨t189, A1290, H⟩ := H
          replace H : (if y186.length + t189.length < 8796093022208 then (if t164 = 0 then ((outbox_Next.f a0_0 l0_1).bind fun t195 => (if t195 = (wrap64 (a0_0 + (l0_1.length : Int))) then ((outbox_Next.f t160 t161).bind fun t196 => (if t196 = (wrap64 ((wrap64 (a0_0 + (l0_1.length : Int))) + (l1.length : Int))) then (if t160 = a0_0 then ((batonlaw31_keys.f kj4 t160 t161).bind fun t197 => ((batonref31_Same.f kj4 t197 (y186 ++ t189)).bind fun t200 => (if t200 = true then ((batonlaw31_right.f t160 t161).bind fun t201 => (some t201)) else (some false)))) else (some false)) else (some false))) else (some false))) else (some false)) else (none)) = some r := H
          have A129 := Aside0.mk A1290
          clear A1290
          by_cases c130 : y186.length + t189.length < 8796093022208
          ·rw [if_pos c130] at H
           have LMc130 := Aside0.mk c130
           clear c130
           obtain ⟨y192, hy192⟩ : ∃ y_ : List (S140), y_ = (y186 ++ t189) := ⟨_, rfl⟩
           replace H : (if t164 = 0 then ((outbox_Next.f a0_0 l0_1).bind fun t195 => (if t195 = (wrap64 (a0_0 + (l0_1.length : Int))) then ((outbox_Next.f t160 t161).bind fun t196 => (if t196 = (wrap64 ((wrap64 (a0_0 + (l0_1.length : Int))) + (l1.length : Int))) then (if t160 = a0_0 then ((batonlaw31_keys.f kj4 t160 t161).bind fun t197 => ((batonref31_Same.f kj4 t197 y192).bind fun t200 => (if t200 = true then ((batonlaw31_right.f t160 t161).bind fun t201 => (some t201)) else (some false)))) else (some false)) else (some false))) else (some false))) else (some false)) = some r := by first | (rw [hy192]; with_reducible exact H) | (have H2_ := (Option.bind_some _ _).symm.trans H; rw [hy192]; with_reducible exact H2_) | (have H2_ := (Option.bind_some _ _).symm.trans H; with_reducible exact H2_) | with_reducible exact H | (rw [hy192]; exact H) | exact H
           have Ny192 := Aside0.mk hy192
           clear hy192
           by_cases c131 : t164 = 0
           ·rw [if_pos c131] at H
            have c131b0 : (t164 == 0) = true := beq_iff_eq.mpr c131
            have c131b1 : (t164 != 0) = false := bne_eq_false_iff_eq.mpr c131
            clear c131
            replace H := Option.bind_eq_some_iff.mp H
            obtain ⟨t195, A1320, H⟩ := H
            replace H : (if t195 = (wrap64 (a0_0 + (l0_1.length : Int))) then ((outbox_Next.f t160 t161).bind fun t196 => (if t196 = (wrap64 ((wrap64 (a0_0 + (l0_1.length : Int))) + (l1.length : Int))) then (if t160 = a0_0 then ((batonlaw31_keys.f kj4 t160 t161).bind fun t197 => ((batonref31_Same.f kj4 t197 y192).bind fun t200 => (if t200 = true then ((batonlaw31_right.f t160 t161).bind fun t201 => (some t201)) else (some false)))) else (some false)) else (some false))) else (some false)) = some r := H
            have A132 := Aside0.mk A1320
            clear A1320
            by_cases c133 : t195 = (wrap64 (a0_0 + (l0_1.length : Int)))
            ·rw [if_pos c133] at H
             have c133b0 : (t195 == (wrap64 (a0_0 + (l0_1.length : Int)))) = true := beq_iff_eq.mpr c133
             have c133b1 : (t195 != (wrap64 (a0_0 + (l0_1.length : Int)))) = false := bne_eq_false_iff_eq.mpr c133
             clear c133
             replace H := Option.bind_eq_some_iff.mp H
             obtain ⟨t196, A1340, H⟩ := H
             replace H : (if t196 = (wrap64 ((wrap64 (a0_0 + (l0_1.length : Int))) + (l1.length : Int))) then (if t160 = a0_0 then ((batonlaw31_keys.f kj4 t160 t161).bind fun t197 => ((batonref31_Same.f kj4 t197 y192).bind fun t200 => (if t200 = true then ((batonlaw31_right.f t160 t161).bind fun t201 => (some t201)) else (some false)))) else (some false)) else (some false)) = some r := H
             have A134 := Aside0.mk A1340
             clear A1340
             by_cases c135 : t196 = (wrap64 ((wrap64 (a0_0 + (l0_1.length : Int))) + (l1.length : Int)))
             ·rw [if_pos c135] at H
              have c135b0 : (t196 == (wrap64 ((wrap64 (a0_0 + (l0_1.length : Int))) + (l1.length : Int)))) = true := beq_iff_eq.mpr c135
              have c135b1 : (t196 != (wrap64 ((wrap64 (a0_0 + (l0_1.length : Int))) + (l1.length : Int)))) = false := bne_eq_false_iff_eq.mpr c135
              clear c135
              by_cases c136 : t160 = a0_0
              ·rw [if_pos c136] at H
               have c136b0 : (t160 == a0_0) = true := beq_iff_eq.mpr c136
               have c136b1 : (t160 != a0_0) = false := bne_eq_false_iff_eq.mpr c136
               clear c136
               replace H := Option.bind_eq_some_iff.mp H
               obtain ⟨t197, A1370, H⟩ := H
               replace H : ((batonref31_Same.f kj4 t197 y192).bind fun t200 => (if t200 = true then ((batonlaw31_right.f t160 t161).bind fun t201 => (some t201)) else (some false))) = some r := H
               have A137 := Aside0.mk A1370
               clear A1370
               replace H := Option.bind_eq_some_iff.mp H
               obtain ⟨t200, A1380, H⟩ := H
               replace H : (if t200 = true then ((batonlaw31_right.f t160 t161).bind fun t201 => (some t201)) else (some false)) = some r := H
               have A138 := Aside0.mk A1380
               clear A1380
               by_cases c139 : t200 = true
               ·subst c139
                have H1 : ((batonlaw31_right.f t160 t161).bind fun t201 => (some t201)) = some r := by rw [if_pos rfl] at H; exact H
                clear H
                have H := H1
                clear H1
                replace H := Option.bind_eq_some_iff.mp H
                obtain ⟨t201, A1400, H⟩ := H
                replace H : (some t201) = some r := H
                have A140 := Aside0.mk A1400
                clear A1400
                obtain rfl := Option.some.inj H
                have hcz141_0 : wc.cell? ⟨gb156, 0, none⟩ = some (.int .i64 a0_0) := (blk_cell BK156.out 0).trans rfl
                have hcz141_1 : wc.cell? ⟨gb156, 1, none⟩ = some (.slice A0_1 l0_1.length c0_1) := (blk_cell BK156.out 1).trans rfl
                have hfz141_0 := blk_frozen BK156.out 0
                have hfz141_1 := blk_frozen BK156.out 1
                go_wp2_with (first | ((with_reducible refine gate_callee (f := 28) rfl ?_); refine goesL_ (some 22) rfl rfl Try.func28 q_10 rfl #[.agg #[.int .i64 a0_0, .slice A0_1 l0_1.length c0_1]] rfl q_4 ?_; (with_reducible refine (batonlaw31_right.calls a0_0 _ _ l0_1 true _ ?side1 ?side2 A12.out).mono ?_); (case side1 => repeat (first | exact (Kd.C_below HR0_1.out HB.out) | (with_reducible refine Kd.C_alloc ?_ _) | (with_reducible refine Kd.C_drewN ?_ _) | (with_reducible refine Kd.C_drew ?_))); (case side2 => exact HC0_1.out); rintro e w142 ⟨rfl, hb⟩; refine ⟨_, rfl, ?_⟩; have n0_ := Aside0.mk (blk_below (g := gb156) (o := .cells #[.int .i64 a0_0, .slice A0_1 l0_1.length c0_1] 47 (0, 0)) q_3 hb); have n1_ := Aside0.mk (below_step q_1 hb); clear BK156; clear HB; have BK156 := n0_; have HB := n1_; clear n0_ n1_; (try clear hb); (try clear hb2); (try clear hk); (try clear hi); have hcz143_0 : w142.cell? ⟨gb156, 0, none⟩ = some (.int .i64 a0_0) := (blk_cell BK156.out 0).trans rfl; have hcz143_1 : w142.cell? ⟨gb156, 1, none⟩ = some (.slice A0_1 l0_1.length c0_1) := (blk_cell BK156.out 1).trans rfl; have hfz143_0 := blk_frozen BK156.out 0; have hfz143_1 := blk_frozen BK156.out 1) | ((with_reducible refine gate_callee (f := 29) rfl ?_); refine goesL_ (some 24) rfl rfl Try.func29 q_10 rfl #[.agg #[.int .i64 a0_0, .slice A0_1 l0_1.length c0_1]] rfl q_4 ?_; (with_reducible refine (outbox_Right.calls a0_0 _ _ l0_1 t159 _ ?side1 ?side2 A13.out).mono ?_); (case side1 => repeat (first | exact (Kd.C_below HR0_1.out HB.out) | (with_reducible refine Kd.C_alloc ?_ _) | (with_reducible refine Kd.C_drewN ?_ _) | (with_reducible refine Kd.C_drew ?_))); (case side2 => exact HC0_1.out); rintro e w144 ⟨rfl, hb⟩; refine ⟨_, rfl, ?_⟩; have n0_ := Aside0.mk (blk_below (g := gb156) (o := .cells #[.int .i64 a0_0, .slice A0_1 l0_1.length c0_1] 47 (0, 0)) q_3 hb); have n1_ := Aside0.mk (below_step q_1 hb); clear BK156; clear HB; have BK156 := n0_; have HB := n1_; clear n0_ n1_; (try clear hb); (try clear hb2); (try clear hk); (try clear hi); have hcz145_0 : w144.cell? ⟨gb156, 0, none⟩ = some (.int .i64 a0_0) := (blk_cell BK156.out 0).trans rfl; have hcz145_1 : w144.cell? ⟨gb156, 1, none⟩ = some (.slice A0_1 l0_1.length c0_1) := (blk_cell BK156.out 1).trans rfl; have hfz145_0 := blk_frozen BK156.out 0; have hfz145_1 := blk_frozen BK156.out 1) | ((with_reducible refine gate_callee (f := 27) rfl ?_); refine goesL_ (some 38) rfl rfl Try.func27 q_10 rfl #[.agg #[.int .i64 a0_0, .slice A0_1 l0_1.length c0_1], .slice A1 l1.length c1] rfl q_4 ?_; (with_reducible refine (outbox_Put.calls kj4 a0_0 (fun k_ => k_ < w.heap.size) _ _ l0_1 (fun k_ => k_ < w.heap.size) _ _ l1 t160 t161 t164 _ ?side1 ?side2 A20.out).mono ?_); (case side1 => exact Kd.V_mk HC0_1.out (Kd.F_below (Kd.C_F (Kd.heap_int .u8) HR0_1.out) q_1)); (case side2 => exact Kd.V_mk HC1.out (Kd.F_below (Kd.C_F (Kd.heap_int .u8) HR1.out) q_1)); rintro e w146 ⟨v162, rfl, ho0, hb⟩; refine ⟨_, rfl, ?_⟩; have n0_ := Aside0.mk (Kd.V_lower (Kd.V_mono (ok' := fun k_ => k_ ≠ gb156) ho0 (fun k_ hk_ => Or.elim hk_ (fun hs_ => Or.elim hs_ (fun hs_ => fun e_ => Nat.not_le.2 hs_ q_21) (fun hs_ => fun e_ => Nat.not_le.2 hs_ q_21)) (fun hn_ => (Kd.freshB (g := gb156) (o := .cells #[.int .i64 a0_0, .slice A0_1 l0_1.length c0_1] 47 (0, 0)) q_3 k_ hn_)))) (below_size q_1)); have n1_ := Aside0.mk (blk_below (g := gb156) (o := .cells #[.int .i64 a0_0, .slice A0_1 l0_1.length c0_1] 47 (0, 0)) q_3 hb); have n2_ := Aside0.mk (below_step q_1 hb); clear BK156; clear HB; have HO163 := n0_; have BK156 := n1_; have HB := n2_; clear n0_ n1_ n2_; (try clear hb); (try clear hb2); (try clear hk); (try clear hi); (try clear ho0)) | ((with_reducible refine gate_dst (N := 7) rfl ?_); (try (refine gate_guard (by rfl) ?_; dsimp only)); refine box_event ?hg (N := 7) ?hd (cs := #[.int .i64 0, .slice none 0 0]) (t := 47) ?hr ?_; (case hd => rfl); (case hg => rfl); (case hr => first | (go_simp; done) | (go_simp; rfl)); intro gb165 hg w147 hbox hb; have n0_ := Aside0.mk (Kd.V_below (Kd.V_elderB q_6 gb165 (Nat.le_of_eq hg.symm)) hb); have n1_ := Aside0.mk (blk_below (g := gb156) (o := .cells #[.int .i64 a0_0, .slice A0_1 l0_1.length c0_1] 47 (0, 0)) q_3 hb); have n2_ := Aside0.mk (below_step q_1 hb); have n3_ := Aside0.mk (hbox); have n4_ := Aside0.mk ((by rw [hg]; exact (below_size q_1) : w.heap.size <= gb165)); have n5_ := Aside0.mk ((by rw [hg]; exact (below_size q_1) : w.heap.size <= gb165)); have n6_ := Aside0.mk ((by rw [hg]; exact Nat.ne_of_lt (blk_lt (g := gb156) (o := .cells #[.int .i64 a0_0, .slice A0_1 l0_1.length c0_1] 47 (0, 0)) q_3) : gb156 ≠ gb165)); have n7_ := Aside0.mk ((by rw [hg]; exact Nat.ne_of_gt (blk_lt (g := gb156) (o := .cells #[.int .i64 a0_0, .slice A0_1 l0_1.length c0_1] 47 (0, 0)) q_3) : gb165 ≠ gb156)); clear HO163; clear BK156; clear HB; have HO163 := n0_; have BK156 := n1_; have HB := n2_; have BK165 := n3_; have GW165 := n4_; have GE165 := n5_; have NB156_165 := n6_; have NB165_156 := n7_; clear n0_ n1_ n2_ n3_ n4_ n5_ n6_ n7_; clear hb hbox hg; have hnb148 := NB165_156.out; have hnc148 := NB156_165.out; have hcz149_0 : w147.cell? ⟨gb165, 0, none⟩ = some (.int .i64 0) := (blk_cell BK165.out 0).trans rfl; have hcz149_1 : w147.cell? ⟨gb165, 1, none⟩ = some (.slice none 0 0) := (blk_cell BK165.out 1).trans rfl; have hfz149_0 := blk_frozen BK165.out 0; have hfz149_1 := blk_frozen BK165.out 1; obtain ⟨Ao150, co150, eo150⟩ := Kd.V_slice HO163.out; subst eo150; have hcz151_0 : w147.cell? ⟨gb156, 0, none⟩ = some (.int .i64 a0_0) := (blk_cell BK156.out 0).trans rfl; have hcz151_1 : w147.cell? ⟨gb156, 1, none⟩ = some (.slice A0_1 l0_1.length c0_1) := (blk_cell BK156.out 1).trans rfl; have hfz151_0 := blk_frozen BK156.out 0; have hfz151_1 := blk_frozen BK156.out 1) | ((with_reducible refine gate_dst (N := 87) rfl ?_); (try (refine gate_guard (by rfl) ?_; dsimp only)); refine Kd.R_lit k140 _ 140 ?hg (N := 87) ?hd (xs := ([] : List (S140))) (inner := []) (ok := fun _ => True) (okp := fun _ => True) ?hr ?hp (fun _ hk => hk) trivial (Below.refl _ _) (Nat.le_refl _) (by simp) ?_; (case hd => rfl); (case hg => rfl); (case hr => first | (go_simp; done) | (go_simp; rfl)); (case hp => exact (Reps.none _ _)); intro v181 w152 ho153 hb hg_ hnew_; clear hg_ hnew_; (first | rw [← Ny180.out] at ho153 | (simp only [Int.reduceToNat] at ho153; rw [← Ny180.out] at ho153)); have n0_ := Aside0.mk (Kd.V_elder' (by (with_reducible repeat (first | apply Kd.V_alloc | apply Kd.V_drewN | apply Kd.V_drew)); exact (Kd.V_mono (Kd.V_far (p := ⟨gb165, 1, none⟩) (Kd.V_far (p := ⟨gb165, 0, none⟩) (Kd.V_mono HO163.out (fun k_ hk => (⟨hk, hk.2⟩ : _ /\ k_ ≠ gb165))) (fun _ hk => hk.2) (.int .i64 t160)) (fun _ hk => hk.2) (.slice Ao150 t161.length co150)) (fun _ h_ => h_.1))) (Kd.R_base ho153) hb); have n1_ := Aside0.mk (Kd.R_lower ho153 (below_size q_2)); have n2_ := Aside0.mk (blk_below (g := gb156) (o := .cells #[.int .i64 a0_0, .slice A0_1 l0_1.length c0_1] 47 (0, 0)) q_11 hb); have n3_ := Aside0.mk (blk_below (g := gb165) (o := .cells #[.int .i64 t160, .slice Ao150 t161.length co150] 47 (0, 0)) q_8 hb); have n4_ := Aside0.mk (below_step q_2 hb); clear HO163; clear BK156; clear BK165; clear HB; have HO163 := n0_; have HO182 := n1_; have BK156 := n2_; have BK165 := n3_; have HB := n4_; clear n0_ n1_ n2_ n3_ n4_; clear hb ho153; have hcz154_0 : w152.cell? ⟨gb156, 0, none⟩ = some (.int .i64 a0_0) := (blk_cell BK156.out 0).trans rfl; have hcz154_1 : w152.cell? ⟨gb156, 1, none⟩ = some (.slice A0_1 l0_1.length c0_1) := (blk_cell BK156.out 1).trans rfl; have hfz154_0 := blk_frozen BK156.out 0; have hfz154_1 := blk_frozen BK156.out 1) | ((with_reducible refine gate_callee (f := 31) rfl ?_); refine goesL_ (some 89) rfl rfl Try.func31 q_10 rfl #[.agg #[.int .i64 a0_0, .slice A0_1 l0_1.length c0_1]] rfl q_4 ?_; (with_reducible refine (batonlaw31_keys.calls kj4 a0_0 _ _ l0_1 t183 _ ?side1 ?side2 A127.out).mono ?_); (case side1 => repeat (first | exact (Kd.C_below HR0_1.out HB.out) | (with_reducible refine Kd.C_alloc ?_ _) | (with_reducible refine Kd.C_drewN ?_ _) | (with_reducible refine Kd.C_drew ?_))); (case side2 => exact HC0_1.out); rintro e w155 ⟨v184, rfl, ho0, hb⟩; refine ⟨_, rfl, ?_⟩; have n0_ := Aside0.mk (Kd.V_elder' q_6 (Kd.R_base ho0) hb); have n1_ := Aside0.mk (Kd.R_elder' q_14 (Kd.R_base ho0) hb); have n2_ := Aside0.mk (Kd.R_lower (Kd.R_new' ho0 (Kd.R_lt q_14)) (below_size q_2)); have n3_ := Aside0.mk (blk_below (g := gb156) (o := .cells #[.int .i64 a0_0, .slice A0_1 l0_1.length c0_1] 47 (0, 0)) q_3 hb); have n4_ := Aside0.mk (blk_below (g := gb165) (o := .cells #[.int .i64 t160, .slice Ao150 t161.length co150] 47 (0, 0)) q_5 hb); have n5_ := Aside0.mk (below_step q_2 hb); clear HO163; clear HO182; clear BK156; clear BK165; clear HB; have HO163 := n0_; have HO182 := n1_; have HO185 := n2_; have BK156 := n3_; have BK165 := n4_; have HB := n5_; clear n0_ n1_ n2_ n3_ n4_ n5_; (try clear hb); (try clear hb2); (try clear hk); (try clear hi); (try clear ho0); obtain ⟨Ao157, co157, eo157⟩ := Kd.R_slice HO185.out; subst eo157) | ((with_reducible refine gate_builtin (b := .append) (xs := #[.tmp 87, .tmp 89]) rfl ?_); (try (refine gate_guard (by rfl) ?_; dsimp only)); at_builtin; refine Kd.R_append_rows k140 (w0 := w) w.heap.size rfl (.tmp 87) (.tmp 89) 56 140 (.agg #[(.int .i64 0), (.int .u8 0)]) 16 rfl Try.underlying56 info140 rfl q_22 (by omega) v181 y180 t183 _ _ _ (fun k_ => some k_ ≠ (.slice Ao157 t183.length co157 : Value).ownBlock) (fun _ => False) rfl rfl ?aO ?aR (fun _ _ h => h) (fun _ h => h.elim) ?aF ?aB ?aS ?aL ?_; (case aR => repeat (first | exact (Kd.R_reads' HO185.out).2.2 | (with_reducible refine Kd.C_alloc ?_ _) | (with_reducible refine Kd.C_drewN ?_ _) | (with_reducible refine Kd.C_drew ?_))); (case aB => exact q_2); (case aF => exact (fun k_ hk => Kd.fresh' (Kd.R_lt q_7) k_ hk)); (case aO => exact q_19); (case aS => exact (below_size q_2)); (case aL => have := LMc128.out; omega); intro v187 w156 ho hb hg hat; rw [← Ny186.out] at ho; have n0_ := Aside0.mk (blk_grown (g := gb156) (o := .cells #[.int .i64 a0_0, .slice A0_1 l0_1.length c0_1] 47 (0, 0)) q_3 hg (Kd.R_ne HO182.out BK156.out q_22)); have n1_ := Aside0.mk (Kd.V_afterv (ok := (fun k_ => some k_ ≠ (.slice Ao157 t183.length co157 : Value).ownBlock /\ k_ ≠ gb156 /\ k_ ≠ gb165)) q_16 hg hat); have n2_ := Aside0.mk (blk_grown (g := gb165) (o := .cells #[.int .i64 t160, .slice Ao150 t161.length co150] 47 (0, 0)) q_5 hg (Kd.R_ne HO182.out BK165.out q_22)); have n3_ := Aside0.mk (Kd.R_after (ok := (fun _ => True)) q_7 hg hat); have n4_ := Aside0.mk (hb); have n5_ := Aside0.mk (ho); clear BK156; clear HO163; clear BK165; clear HO185; clear HB; clear HO182; have BK156 := n0_; have HO163 := n1_; have BK165 := n2_; have HO185 := n3_; have HB := n4_; have HO188 := n5_; clear n0_ n1_ n2_ n3_ n4_ n5_; clear ho hb hg hat) | ((with_reducible refine gate_callee (f := 32) rfl ?_); refine goesL_ (some 93) rfl rfl Try.func32 q_10 rfl #[.int .i64 (wrap64 (a0_0 + (l0_1.length : Int))), .slice A1 l1.length c1] rfl q_4 ?_; (with_reducible refine (batonref31_Keys.calls kj4 (wrap64 (a0_0 + (l0_1.length : Int))) _ _ l1 t189 _ ?side1 ?side2 A129.out).mono ?_); (case side1 => repeat (first | exact (Kd.C_below HR1.out HB.out) | (with_reducible refine Kd.C_alloc ?_ _) | (with_reducible refine Kd.C_drewN ?_ _) | (with_reducible refine Kd.C_drew ?_))); (case side2 => exact HC1.out); rintro e w158 ⟨v190, rfl, ho0, hb⟩; refine ⟨_, rfl, ?_⟩; have n0_ := Aside0.mk (Kd.V_elder' q_6 (Kd.R_base ho0) hb); have n1_ := Aside0.mk (Kd.R_elder' q_7 (Kd.R_base ho0) hb); have n2_ := Aside0.mk (Kd.R_elder' q_12 (Kd.R_base ho0) hb); have n3_ := Aside0.mk (Kd.R_lower (Kd.R_new' (Kd.R_new' ho0 (Kd.R_lt q_7)) (Kd.R_lt q_12)) (below_size q_2)); have n4_ := Aside0.mk (blk_below (g := gb156) (o := .cells #[.int .i64 a0_0, .slice A0_1 l0_1.length c0_1] 47 (0, 0)) q_3 hb); have n5_ := Aside0.mk (blk_below (g := gb165) (o := .cells #[.int .i64 t160, .slice Ao150 t161.length co150] 47 (0, 0)) q_5 hb); have n6_ := Aside0.mk (below_step q_2 hb); clear HO163; clear HO185; clear HO188; clear BK156; clear BK165; clear HB; have HO163 := n0_; have HO185 := n1_; have HO188 := n2_; have HO191 := n3_; have BK156 := n4_; have BK165 := n5_; have HB := n6_; clear n0_ n1_ n2_ n3_ n4_ n5_ n6_; (try clear hb); (try clear hb2); (try clear hk); (try clear hi); (try clear ho0); obtain ⟨Ao160, co160, eo160⟩ := Kd.R_slice HO191.out; subst eo160) | ((with_reducible refine gate_builtin (b := .append) (xs := #[.tmp 90, .tmp 93]) rfl ?_); (try (refine gate_guard (by rfl) ?_; dsimp only)); at_builtin; refine Kd.R_append_rows k140 (w0 := w) w.heap.size rfl (.tmp 90) (.tmp 93) 56 140 (.agg #[(.int .i64 0), (.int .u8 0)]) 16 rfl Try.underlying56 info140 rfl q_22 (by omega) v187 y186 t189 _ _ _ (fun k_ => some k_ ≠ (.slice Ao157 t183.length co157 : Value).ownBlock /\ some k_ ≠ (.slice Ao160 t189.length co160 : Value).ownBlock) (fun _ => False) rfl rfl ?aO ?aR (fun _ _ h => h) (fun _ h => h.elim) ?aF ?aB ?aS ?aL ?_; (case aR => repeat (first | exact (Kd.R_reads' HO191.out).2.2 | (with_reducible refine Kd.C_alloc ?_ _) | (with_reducible refine Kd.C_drewN ?_ _) | (with_reducible refine Kd.C_drew ?_))); (case aB => exact q_2); (case aF => exact (fun k_ hk => ⟨Kd.fresh' (Kd.R_lt q_7) k_ hk, Kd.fresh' (Kd.R_lt q_9) k_ hk⟩)); (case aO => exact q_12); (case aS => exact (below_size q_2)); (case aL => have := LMc130.out; omega); intro v193 w159 ho hb hg hat; rw [← Ny192.out] at ho; have n0_ := Aside0.mk (blk_grown (g := gb156) (o := .cells #[.int .i64 a0_0, .slice A0_1 l0_1.length c0_1] 47 (0, 0)) q_3 hg (Kd.R_ne HO188.out BK156.out q_22)); have n1_ := Aside0.mk (Kd.V_afterv (ok := (fun k_ => some k_ ≠ (.slice Ao157 t183.length co157 : Value).ownBlock /\ some k_ ≠ (.slice Ao160 t189.length co160 : Value).ownBlock /\ k_ ≠ gb156 /\ k_ ≠ gb165)) q_15 hg hat); have n2_ := Aside0.mk (blk_grown (g := gb165) (o := .cells #[.int .i64 t160, .slice Ao150 t161.length co150] 47 (0, 0)) q_5 hg (Kd.R_ne HO188.out BK165.out q_22)); have n3_ := Aside0.mk (Kd.R_after (ok := (fun k_ => some k_ ≠ (.slice Ao160 t189.length co160 : Value).ownBlock)) q_18 hg hat); have n4_ := Aside0.mk (Kd.R_after (ok := (fun k_ => some k_ ≠ (.slice Ao157 t183.length co157 : Value).ownBlock)) q_17 hg hat); have n5_ := Aside0.mk (hb); have n6_ := Aside0.mk (ho); clear BK156; clear HO163; clear BK165; clear HO185; clear HO191; clear HB; clear HO188; have BK156 := n0_; have HO163 := n1_; have BK165 := n2_; have HO185 := n3_; have HO191 := n4_; have HB := n5_; have HO194 := n6_; clear n0_ n1_ n2_ n3_ n4_ n5_ n6_; clear ho hb hg hat; have hcz161_0 : w159.cell? ⟨gb156, 0, none⟩ = some (.int .i64 a0_0) := (blk_cell BK156.out 0).trans rfl; have hcz161_1 : w159.cell? ⟨gb156, 1, none⟩ = some (.slice A0_1 l0_1.length c0_1) := (blk_cell BK156.out 1).trans rfl; have hfz161_0 := blk_frozen BK156.out 0; have hfz161_1 := blk_frozen BK156.out 1) | (go_at_call 33; (with_reducible refine (outbox_Next.calls a0_0 _ _ l0_1 t195 _ ?side1 ?side2 A132.out).mono ?_); (case side1 => repeat (first | exact (Kd.C_below HR0_1.out HB.out) | (with_reducible refine Kd.C_alloc ?_ _) | (with_reducible refine Kd.C_drewN ?_ _) | (with_reducible refine Kd.C_drew ?_))); (case side2 => exact HC0_1.out); rintro e w162 ⟨rfl, hb⟩; have n0_ := Aside0.mk (Kd.V_below q_6 hb); have n1_ := Aside0.mk (Kd.R_below q_7 hb); have n2_ := Aside0.mk (Kd.R_below q_9 hb); have n3_ := Aside0.mk (Kd.R_below q_13 hb); have n4_ := Aside0.mk (blk_below (g := gb156) (o := .cells #[.int .i64 a0_0, .slice A0_1 l0_1.length c0_1] 47 (0, 0)) q_3 hb); have n5_ := Aside0.mk (blk_below (g := gb165) (o := .cells #[.int .i64 t160, .slice Ao150 t161.length co150] 47 (0, 0)) q_5 hb); have n6_ := Aside0.mk (below_step q_2 hb); clear HO163; clear HO185; clear HO191; clear HO194; clear BK156; clear BK165; clear HB; have HO163 := n0_; have HO185 := n1_; have HO191 := n2_; have HO194 := n3_; have BK156 := n4_; have BK165 := n5_; have HB := n6_; clear n0_ n1_ n2_ n3_ n4_ n5_ n6_; (try clear hb); (try clear hb2); (try clear hk); (try clear hi); have hcz163_0 : w162.cell? ⟨gb165, 0, none⟩ = some (.int .i64 t160) := (blk_cell BK165.out 0).trans rfl; have hcz163_1 : w162.cell? ⟨gb165, 1, none⟩ = some (.slice Ao150 t161.length co150) := (blk_cell BK165.out 1).trans rfl; have hfz163_0 := blk_frozen BK165.out 0; have hfz163_1 := blk_frozen BK165.out 1) | (go_at_call 33; (with_reducible refine (outbox_Next.calls t160 _ _ t161 t196 _ ?side1 ?side2 A134.out).mono ?_); (case side1 => repeat (first | exact (Kd.V_reads' HO163.out).2.2 | (with_reducible refine Kd.C_alloc ?_ _) | (with_reducible refine Kd.C_drewN ?_ _) | (with_reducible refine Kd.C_drew ?_))); (case side2 => exact (Kd.V_reads' HO163.out).2.1); rintro e w164 ⟨rfl, hb⟩; have n0_ := Aside0.mk (Kd.V_below q_6 hb); have n1_ := Aside0.mk (Kd.R_below q_7 hb); have n2_ := Aside0.mk (Kd.R_below q_9 hb); have n3_ := Aside0.mk (Kd.R_below q_13 hb); have n4_ := Aside0.mk (blk_below (g := gb156) (o := .cells #[.int .i64 a0_0, .slice A0_1 l0_1.length c0_1] 47 (0, 0)) q_3 hb); have n5_ := Aside0.mk (blk_below (g := gb165) (o := .cells #[.int .i64 t160, .slice Ao150 t161.length co150] 47 (0, 0)) q_5 hb); have n6_ := Aside0.mk (below_step q_2 hb); clear HO163; clear HO185; clear HO191; clear HO194; clear BK156; clear BK165; clear HB; have HO163 := n0_; have HO185 := n1_; have HO191 := n2_; have HO194 := n3_; have BK156 := n4_; have BK165 := n5_; have HB := n6_; clear n0_ n1_ n2_ n3_ n4_ n5_ n6_; (try clear hb); (try clear hb2); (try clear hk); (try clear hi); have hcz165_0 : w164.cell? ⟨gb165, 0, none⟩ = some (.int .i64 t160) := (blk_cell BK165.out 0).trans rfl; have hcz165_1 : w164.cell? ⟨gb165, 1, none⟩ = some (.slice Ao150 t161.length co150) := (blk_cell BK165.out 1).trans rfl; have hfz165_0 := blk_frozen BK165.out 0; have hfz165_1 := blk_frozen BK165.out 1; have hcz166_0 : w164.cell? ⟨gb156, 0, none⟩ = some (.int .i64 a0_0) := (blk_cell BK156.out 0).trans rfl; have hcz166_1 : w164.cell? ⟨gb156, 1, none⟩ = some (.slice A0_1 l0_1.length c0_1) := (blk_cell BK156.out 1).trans rfl; have hfz166_0 := blk_frozen BK156.out 0; have hfz166_1 := blk_frozen BK156.out 1) | (go_at_call 31; (with_reducible refine (batonlaw31_keys.calls kj4 t160 _ _ t161 t197 _ ?side1 ?side2 A137.out).mono ?_); (case side1 => repeat (first | exact (Kd.V_reads' HO163.out).2.2 | (with_reducible refine Kd.C_alloc ?_ _) | (with_reducible refine Kd.C_drewN ?_ _) | (with_reducible refine Kd.C_drew ?_))); (case side2 => exact (Kd.V_reads' HO163.out).2.1); rintro e w167 ⟨v198, rfl, ho0, hb⟩; have n0_ := Aside0.mk (Kd.V_elder' q_6 (Kd.R_base ho0) hb); have n1_ := Aside0.mk (Kd.R_elder' q_7 (Kd.R_base ho0) hb); have n2_ := Aside0.mk (Kd.R_elder' q_9 (Kd.R_base ho0) hb); have n3_ := Aside0.mk (Kd.R_elder' q_13 (Kd.R_base ho0) hb); have n4_ := Aside0.mk (Kd.R_lower (Kd.R_new' (Kd.R_new' (Kd.R_new' ho0 (Kd.R_lt q_7)) (Kd.R_lt q_9)) (Kd.R_lt q_13)) (below_size q_2)); have n5_ := Aside0.mk (blk_below (g := gb156) (o := .cells #[.int .i64 a0_0, .slice A0_1 l0_1.length c0_1] 47 (0, 0)) q_3 hb); have n6_ := Aside0.mk (blk_below (g := gb165) (o := .cells #[.int .i64 t160, .slice Ao150 t161.length co150] 47 (0, 0)) q_5 hb); have n7_ := Aside0.mk (below_step q_2 hb); clear HO163; clear HO185; clear HO191; clear HO194; clear BK156; clear BK165; clear HB; have HO163 := n0_; have HO185 := n1_; have HO191 := n2_; have HO194 := n3_; have HO199 := n4_; have BK156 := n5_; have BK165 := n6_; have HB := n7_; clear n0_ n1_ n2_ n3_ n4_ n5_ n6_ n7_; (try clear hb); (try clear hb2); (try clear hk); (try clear hi); (try clear ho0); obtain ⟨Ao168, co168, eo168⟩ := Kd.R_slice HO199.out; subst eo168; obtain ⟨Ao169, co169, eo169⟩ := Kd.R_slice HO194.out; subst eo169) | (go_at_call 30; (with_reducible refine (batonref31_Same.calls kj4 _ _ t197 _ _ y192 true _ ?side1 ?side2 ?side3 ?side4 A138.out).mono ?_); (case side1 => repeat (first | exact (Kd.R_reads' HO199.out).2.2 | (with_reducible refine Kd.C_alloc ?_ _) | (with_reducible refine Kd.C_drewN ?_ _) | (with_reducible refine Kd.C_drew ?_))); (case side2 => exact (Kd.R_reads' HO199.out).2.1); (case side3 => repeat (first | exact (Kd.R_reads' HO194.out).2.2 | (with_reducible refine Kd.C_alloc ?_ _) | (with_reducible refine Kd.C_drewN ?_ _) | (with_reducible refine Kd.C_drew ?_))); (case side4 => exact (Kd.R_reads' HO194.out).2.1); rintro e w' ⟨rfl, ⟨nd, rfl⟩⟩; have hcz170_0 : w167.cell? ⟨gb165, 0, none⟩ = some (.int .i64 t160) := (blk_cell BK165.out 0).trans rfl; have hcz170_1 : w167.cell? ⟨gb165, 1, none⟩ = some (.slice Ao150 t161.length co150) := (blk_cell BK165.out 1).trans rfl; have hfz170_0 := blk_frozen BK165.out 0; have hfz170_1 := blk_frozen BK165.out 1) | (go_at_call 28; (with_reducible refine (batonlaw31_right.calls t160 _ _ t161 t201 _ ?side1 ?side2 A140.out).mono ?_); (case side1 => repeat (first | exact (Kd.V_reads' HO163.out).2.2 | (with_reducible refine Kd.C_alloc ?_ _) | (with_reducible refine Kd.C_drewN ?_ _) | (with_reducible refine Kd.C_drew ?_))); (case side2 => exact (Kd.V_reads' HO163.out).2.1); rintro e w171 ⟨rfl, hb⟩; have n0_ := Aside0.mk (Kd.V_below q_6 hb); have n1_ := Aside0.mk (Kd.R_below q_7 hb); have n2_ := Aside0.mk (Kd.R_below q_9 hb); have n3_ := Aside0.mk (Kd.R_below q_13 hb); have n4_ := Aside0.mk (Kd.R_below (by (with_reducible repeat (first | apply Kd.R_alloc | apply Kd.R_drewN | apply Kd.R_drew)); exact HO199.out) hb); have n5_ := Aside0.mk (blk_below (g := gb156) (o := .cells #[.int .i64 a0_0, .slice A0_1 l0_1.length c0_1] 47 (0, 0)) q_3 hb); have n6_ := Aside0.mk (blk_below (g := gb165) (o := .cells #[.int .i64 t160, .slice Ao150 t161.length co150] 47 (0, 0)) q_5 hb); have n7_ := Aside0.mk (below_step q_2 hb); clear HO163; clear HO185; clear HO191; clear HO194; clear HO199; clear BK156; clear BK165; clear HB; have HO163 := n0_; have HO185 := n1_; have HO191 := n2_; have HO194 := n3_; have HO199 := n4_; have BK156 := n5_; have BK165 := n6_; have HB := n7_; clear n0_ n1_ n2_ n3_ n4_ n5_ n6_ n7_; (try clear hb); (try clear hb2); (try clear hk); (try clear hi)))
                go_ret
                exact ⟨by first | rfl | (simp [errW_none, errW_some] <;> rfl) | (simp [*, errW_none, errW_some] <;> rfl), by repeat (first | (with_reducible first | exact HB.out | apply below_alloc | apply pw_below_drewN | apply below_drew1 | refine below_set ?_ GE156.out | refine below_set ?_ GE165.out) | exact HB.out)⟩
               ·replace c139 := Bool.eq_false_iff.mpr c139
                subst c139
                have H1 : (some false) = some r := by rw [if_neg (show ¬ (false = true) by decide)] at H; exact H
                clear H
                have H := H1
                clear H1
                obtain rfl := Option.some.inj H
                have hcz172_0 : wc.cell? ⟨gb156, 0, none⟩ = some (.int .i64 a0_0) := (blk_cell BK156.out 0).trans rfl
                have hcz172_1 : wc.cell? ⟨gb156, 1, none⟩ = some (.slice A0_1 l0_1.length c0_1) := (blk_cell BK156.out 1).trans rfl
                have hfz172_0 := blk_frozen BK156.out 0
                have hfz172_1 := blk_frozen BK156.out 1
                go_wp2_with (first | ((with_reducible refine gate_callee (f := 28) rfl ?_); refine goesL_ (some 22) rfl rfl Try.func28 q_10 rfl #[.agg #[.int .i64 a0_0, .slice A0_1 l0_1.length c0_1]] rfl q_4 ?_; (with_reducible refine (batonlaw31_right.calls a0_0 _ _ l0_1 true _ ?side1 ?side2 A12.out).mono ?_); (case side1 => repeat (first | exact (Kd.C_below HR0_1.out HB.out) | (with_reducible refine Kd.C_alloc ?_ _) | (with_reducible refine Kd.C_drewN ?_ _) | (with_reducible refine Kd.C_drew ?_))); (case side2 => exact HC0_1.out); rintro e w173 ⟨rfl, hb⟩; refine ⟨_, rfl, ?_⟩; have n0_ := Aside0.mk (blk_below (g := gb156) (o := .cells #[.int .i64 a0_0, .slice A0_1 l0_1.length c0_1] 47 (0, 0)) q_3 hb); have n1_ := Aside0.mk (below_step q_1 hb); clear BK156; clear HB; have BK156 := n0_; have HB := n1_; clear n0_ n1_; (try clear hb); (try clear hb2); (try clear hk); (try clear hi); have hcz174_0 : w173.cell? ⟨gb156, 0, none⟩ = some (.int .i64 a0_0) := (blk_cell BK156.out 0).trans rfl; have hcz174_1 : w173.cell? ⟨gb156, 1, none⟩ = some (.slice A0_1 l0_1.length c0_1) := (blk_cell BK156.out 1).trans rfl; have hfz174_0 := blk_frozen BK156.out 0; have hfz174_1 := blk_frozen BK156.out 1) | ((with_reducible refine gate_callee (f := 29) rfl ?_); refine goesL_ (some 24) rfl rfl Try.func29 q_10 rfl #[.agg #[.int .i64 a0_0, .slice A0_1 l0_1.length c0_1]] rfl q_4 ?_; (with_reducible refine (outbox_Right.calls a0_0 _ _ l0_1 t159 _ ?side1 ?side2 A13.out).mono ?_); (case side1 => repeat (first | exact (Kd.C_below HR0_1.out HB.out) | (with_reducible refine Kd.C_alloc ?_ _) | (with_reducible refine Kd.C_drewN ?_ _) | (with_reducible refine Kd.C_drew ?_))); (case side2 => exact HC0_1.out); rintro e w175 ⟨rfl, hb⟩; refine ⟨_, rfl, ?_⟩; have n0_ := Aside0.mk (blk_below (g := gb156) (o := .cells #[.int .i64 a0_0, .slice A0_1 l0_1.length c0_1] 47 (0, 0)) q_3 hb); have n1_ := Aside0.mk (below_step q_1 hb); clear BK156; clear HB; have BK156 := n0_; have HB := n1_; clear n0_ n1_; (try clear hb); (try clear hb2); (try clear hk); (try clear hi); have hcz176_0 : w175.cell? ⟨gb156, 0, none⟩ = some (.int .i64 a0_0) := (blk_cell BK156.out 0).trans rfl; have hcz176_1 : w175.cell? ⟨gb156, 1, none⟩ = some (.slice A0_1 l0_1.length c0_1) := (blk_cell BK156.out 1).trans rfl; have hfz176_0 := blk_frozen BK156.out 0; have hfz176_1 := blk_frozen BK156.out 1) | ((with_reducible refine gate_callee (f := 27) rfl ?_); refine goesL_ (some 38) rfl rfl Try.func27 q_10 rfl #[.agg #[.int .i64 a0_0, .slice A0_1 l0_1.length c0_1], .slice A1 l1.length c1] rfl q_4 ?_; (with_reducible refine (outbox_Put.calls kj4 a0_0 (fun k_ => k_ < w.heap.size) _ _ l0_1 (fun k_ => k_ < w.heap.size) _ _ l1 t160 t161 t164 _ ?side1 ?side2 A20.out).mono ?_); (case side1 => exact Kd.V_mk HC0_1.out (Kd.F_below (Kd.C_F (Kd.heap_int .u8) HR0_1.out) q_1)); (case side2 => exact Kd.V_mk HC1.out (Kd.F_below (Kd.C_F (Kd.heap_int .u8) HR1.out) q_1)); rintro e w177 ⟨v162, rfl, ho0, hb⟩; refine ⟨_, rfl, ?_⟩; have n0_ := Aside0.mk (Kd.V_lower (Kd.V_mono (ok' := fun k_ => k_ ≠ gb156) ho0 (fun k_ hk_ => Or.elim hk_ (fun hs_ => Or.elim hs_ (fun hs_ => fun e_ => Nat.not_le.2 hs_ q_21) (fun hs_ => fun e_ => Nat.not_le.2 hs_ q_21)) (fun hn_ => (Kd.freshB (g := gb156) (o := .cells #[.int .i64 a0_0, .slice A0_1 l0_1.length c0_1] 47 (0, 0)) q_3 k_ hn_)))) (below_size q_1)); have n1_ := Aside0.mk (blk_below (g := gb156) (o := .cells #[.int .i64 a0_0, .slice A0_1 l0_1.length c0_1] 47 (0, 0)) q_3 hb); have n2_ := Aside0.mk (below_step q_1 hb); clear BK156; clear HB; have HO163 := n0_; have BK156 := n1_; have HB := n2_; clear n0_ n1_ n2_; (try clear hb); (try clear hb2); (try clear hk); (try clear hi); (try clear ho0)) | ((with_reducible refine gate_dst (N := 7) rfl ?_); (try (refine gate_guard (by rfl) ?_; dsimp only)); refine box_event ?hg (N := 7) ?hd (cs := #[.int .i64 0, .slice none 0 0]) (t := 47) ?hr ?_; (case hd => rfl); (case hg => rfl); (case hr => first | (go_simp; done) | (go_simp; rfl)); intro gb165 hg w178 hbox hb; have n0_ := Aside0.mk (Kd.V_below (Kd.V_elderB q_6 gb165 (Nat.le_of_eq hg.symm)) hb); have n1_ := Aside0.mk (blk_below (g := gb156) (o := .cells #[.int .i64 a0_0, .slice A0_1 l0_1.length c0_1] 47 (0, 0)) q_3 hb); have n2_ := Aside0.mk (below_step q_1 hb); have n3_ := Aside0.mk (hbox); have n4_ := Aside0.mk ((by rw [hg]; exact (below_size q_1) : w.heap.size <= gb165)); have n5_ := Aside0.mk ((by rw [hg]; exact (below_size q_1) : w.heap.size <= gb165)); have n6_ := Aside0.mk ((by rw [hg]; exact Nat.ne_of_lt (blk_lt (g := gb156) (o := .cells #[.int .i64 a0_0, .slice A0_1 l0_1.length c0_1] 47 (0, 0)) q_3) : gb156 ≠ gb165)); have n7_ := Aside0.mk ((by rw [hg]; exact Nat.ne_of_gt (blk_lt (g := gb156) (o := .cells #[.int .i64 a0_0, .slice A0_1 l0_1.length c0_1] 47 (0, 0)) q_3) : gb165 ≠ gb156)); clear HO163; clear BK156; clear HB; have HO163 := n0_; have BK156 := n1_; have HB := n2_; have BK165 := n3_; have GW165 := n4_; have GE165 := n5_; have NB156_165 := n6_; have NB165_156 := n7_; clear n0_ n1_ n2_ n3_ n4_ n5_ n6_ n7_; clear hb hbox hg; have hnb179 := NB165_156.out; have hnc179 := NB156_165.out; have hcz180_0 : w178.cell? ⟨gb165, 0, none⟩ = some (.int .i64 0) := (blk_cell BK165.out 0).trans rfl; have hcz180_1 : w178.cell? ⟨gb165, 1, none⟩ = some (.slice none 0 0) := (blk_cell BK165.out 1).trans rfl; have hfz180_0 := blk_frozen BK165.out 0; have hfz180_1 := blk_frozen BK165.out 1; obtain ⟨Ao181, co181, eo181⟩ := Kd.V_slice HO163.out; subst eo181; have hcz182_0 : w178.cell? ⟨gb156, 0, none⟩ = some (.int .i64 a0_0) := (blk_cell BK156.out 0).trans rfl; have hcz182_1 : w178.cell? ⟨gb156, 1, none⟩ = some (.slice A0_1 l0_1.length c0_1) := (blk_cell BK156.out 1).trans rfl; have hfz182_0 := blk_frozen BK156.out 0; have hfz182_1 := blk_frozen BK156.out 1) | ((with_reducible refine gate_dst (N := 87) rfl ?_); (try (refine gate_guard (by rfl) ?_; dsimp only)); refine Kd.R_lit k140 _ 140 ?hg (N := 87) ?hd (xs := ([] : List (S140))) (inner := []) (ok := fun _ => True) (okp := fun _ => True) ?hr ?hp (fun _ hk => hk) trivial (Below.refl _ _) (Nat.le_refl _) (by simp) ?_; (case hd => rfl); (case hg => rfl); (case hr => first | (go_simp; done) | (go_simp; rfl)); (case hp => exact (Reps.none _ _)); intro v181 w183 ho184 hb hg_ hnew_; clear hg_ hnew_; (first | rw [← Ny180.out] at ho184 | (simp only [Int.reduceToNat] at ho184; rw [← Ny180.out] at ho184)); have n0_ := Aside0.mk (Kd.V_elder' (by (with_reducible repeat (first | apply Kd.V_alloc | apply Kd.V_drewN | apply Kd.V_drew)); exact (Kd.V_mono (Kd.V_far (p := ⟨gb165, 1, none⟩) (Kd.V_far (p := ⟨gb165, 0, none⟩) (Kd.V_mono HO163.out (fun k_ hk => (⟨hk, hk.2⟩ : _ /\ k_ ≠ gb165))) (fun _ hk => hk.2) (.int .i64 t160)) (fun _ hk => hk.2) (.slice Ao181 t161.length co181)) (fun _ h_ => h_.1))) (Kd.R_base ho184) hb); have n1_ := Aside0.mk (Kd.R_lower ho184 (below_size q_2)); have n2_ := Aside0.mk (blk_below (g := gb156) (o := .cells #[.int .i64 a0_0, .slice A0_1 l0_1.length c0_1] 47 (0, 0)) q_11 hb); have n3_ := Aside0.mk (blk_below (g := gb165) (o := .cells #[.int .i64 t160, .slice Ao181 t161.length co181] 47 (0, 0)) q_8 hb); have n4_ := Aside0.mk (below_step q_2 hb); clear HO163; clear BK156; clear BK165; clear HB; have HO163 := n0_; have HO182 := n1_; have BK156 := n2_; have BK165 := n3_; have HB := n4_; clear n0_ n1_ n2_ n3_ n4_; clear hb ho184; have hcz185_0 : w183.cell? ⟨gb156, 0, none⟩ = some (.int .i64 a0_0) := (blk_cell BK156.out 0).trans rfl; have hcz185_1 : w183.cell? ⟨gb156, 1, none⟩ = some (.slice A0_1 l0_1.length c0_1) := (blk_cell BK156.out 1).trans rfl; have hfz185_0 := blk_frozen BK156.out 0; have hfz185_1 := blk_frozen BK156.out 1) | ((with_reducible refine gate_callee (f := 31) rfl ?_); refine goesL_ (some 89) rfl rfl Try.func31 q_10 rfl #[.agg #[.int .i64 a0_0, .slice A0_1 l0_1.length c0_1]] rfl q_4 ?_; (with_reducible refine (batonlaw31_keys.calls kj4 a0_0 _ _ l0_1 t183 _ ?side1 ?side2 A127.out).mono ?_); (case side1 => repeat (first | exact (Kd.C_below HR0_1.out HB.out) | (with_reducible refine Kd.C_alloc ?_ _) | (with_reducible refine Kd.C_drewN ?_ _) | (with_reducible refine Kd.C_drew ?_))); (case side2 => exact HC0_1.out); rintro e w186 ⟨v184, rfl, ho0, hb⟩; refine ⟨_, rfl, ?_⟩; have n0_ := Aside0.mk (Kd.V_elder' q_6 (Kd.R_base ho0) hb); have n1_ := Aside0.mk (Kd.R_elder' q_14 (Kd.R_base ho0) hb); have n2_ := Aside0.mk (Kd.R_lower (Kd.R_new' ho0 (Kd.R_lt q_14)) (below_size q_2)); have n3_ := Aside0.mk (blk_below (g := gb156) (o := .cells #[.int .i64 a0_0, .slice A0_1 l0_1.length c0_1] 47 (0, 0)) q_3 hb); have n4_ := Aside0.mk (blk_below (g := gb165) (o := .cells #[.int .i64 t160, .slice Ao181 t161.length co181] 47 (0, 0)) q_5 hb); have n5_ := Aside0.mk (below_step q_2 hb); clear HO163; clear HO182; clear BK156; clear BK165; clear HB; have HO163 := n0_; have HO182 := n1_; have HO185 := n2_; have BK156 := n3_; have BK165 := n4_; have HB := n5_; clear n0_ n1_ n2_ n3_ n4_ n5_; (try clear hb); (try clear hb2); (try clear hk); (try clear hi); (try clear ho0); obtain ⟨Ao188, co188, eo188⟩ := Kd.R_slice HO185.out; subst eo188) | ((with_reducible refine gate_builtin (b := .append) (xs := #[.tmp 87, .tmp 89]) rfl ?_); (try (refine gate_guard (by rfl) ?_; dsimp only)); at_builtin; refine Kd.R_append_rows k140 (w0 := w) w.heap.size rfl (.tmp 87) (.tmp 89) 56 140 (.agg #[(.int .i64 0), (.int .u8 0)]) 16 rfl Try.underlying56 info140 rfl q_22 (by omega) v181 y180 t183 _ _ _ (fun k_ => some k_ ≠ (.slice Ao188 t183.length co188 : Value).ownBlock) (fun _ => False) rfl rfl ?aO ?aR (fun _ _ h => h) (fun _ h => h.elim) ?aF ?aB ?aS ?aL ?_; (case aR => repeat (first | exact (Kd.R_reads' HO185.out).2.2 | (with_reducible refine Kd.C_alloc ?_ _) | (with_reducible refine Kd.C_drewN ?_ _) | (with_reducible refine Kd.C_drew ?_))); (case aB => exact q_2); (case aF => exact (fun k_ hk => Kd.fresh' (Kd.R_lt q_7) k_ hk)); (case aO => exact q_19); (case aS => exact (below_size q_2)); (case aL => have := LMc128.out; omega); intro v187 w187 ho hb hg hat; rw [← Ny186.out] at ho; have n0_ := Aside0.mk (blk_grown (g := gb156) (o := .cells #[.int .i64 a0_0, .slice A0_1 l0_1.length c0_1] 47 (0, 0)) q_3 hg (Kd.R_ne HO182.out BK156.out q_22)); have n1_ := Aside0.mk (Kd.V_afterv (ok := (fun k_ => some k_ ≠ (.slice Ao188 t183.length co188 : Value).ownBlock /\ k_ ≠ gb156 /\ k_ ≠ gb165)) q_16 hg hat); have n2_ := Aside0.mk (blk_grown (g := gb165) (o := .cells #[.int .i64 t160, .slice Ao181 t161.length co181] 47 (0, 0)) q_5 hg (Kd.R_ne HO182.out BK165.out q_22)); have n3_ := Aside0.mk (Kd.R_after (ok := (fun _ => True)) q_7 hg hat); have n4_ := Aside0.mk (hb); have n5_ := Aside0.mk (ho); clear BK156; clear HO163; clear BK165; clear HO185; clear HB; clear HO182; have BK156 := n0_; have HO163 := n1_; have BK165 := n2_; have HO185 := n3_; have HB := n4_; have HO188 := n5_; clear n0_ n1_ n2_ n3_ n4_ n5_; clear ho hb hg hat) | ((with_reducible refine gate_callee (f := 32) rfl ?_); refine goesL_ (some 93) rfl rfl Try.func32 q_10 rfl #[.int .i64 (wrap64 (a0_0 + (l0_1.length : Int))), .slice A1 l1.length c1] rfl q_4 ?_; (with_reducible refine (batonref31_Keys.calls kj4 (wrap64 (a0_0 + (l0_1.length : Int))) _ _ l1 t189 _ ?side1 ?side2 A129.out).mono ?_); (case side1 => repeat (first | exact (Kd.C_below HR1.out HB.out) | (with_reducible refine Kd.C_alloc ?_ _) | (with_reducible refine Kd.C_drewN ?_ _) | (with_reducible refine Kd.C_drew ?_))); (case side2 => exact HC1.out); rintro e w189 ⟨v190, rfl, ho0, hb⟩; refine ⟨_, rfl, ?_⟩; have n0_ := Aside0.mk (Kd.V_elder' q_6 (Kd.R_base ho0) hb); have n1_ := Aside0.mk (Kd.R_elder' q_7 (Kd.R_base ho0) hb); have n2_ := Aside0.mk (Kd.R_elder' q_12 (Kd.R_base ho0) hb); have n3_ := Aside0.mk (Kd.R_lower (Kd.R_new' (Kd.R_new' ho0 (Kd.R_lt q_7)) (Kd.R_lt q_12)) (below_size q_2)); have n4_ := Aside0.mk (blk_below (g := gb156) (o := .cells #[.int .i64 a0_0, .slice A0_1 l0_1.length c0_1] 47 (0, 0)) q_3 hb); have n5_ := Aside0.mk (blk_below (g := gb165) (o := .cells #[.int .i64 t160, .slice Ao181 t161.length co181] 47 (0, 0)) q_5 hb); have n6_ := Aside0.mk (below_step q_2 hb); clear HO163; clear HO185; clear HO188; clear BK156; clear BK165; clear HB; have HO163 := n0_; have HO185 := n1_; have HO188 := n2_; have HO191 := n3_; have BK156 := n4_; have BK165 := n5_; have HB := n6_; clear n0_ n1_ n2_ n3_ n4_ n5_ n6_; (try clear hb); (try clear hb2); (try clear hk); (try clear hi); (try clear ho0); obtain ⟨Ao191, co191, eo191⟩ := Kd.R_slice HO191.out; subst eo191) | ((with_reducible refine gate_builtin (b := .append) (xs := #[.tmp 90, .tmp 93]) rfl ?_); (try (refine gate_guard (by rfl) ?_; dsimp only)); at_builtin; refine Kd.R_append_rows k140 (w0 := w) w.heap.size rfl (.tmp 90) (.tmp 93) 56 140 (.agg #[(.int .i64 0), (.int .u8 0)]) 16 rfl Try.underlying56 info140 rfl q_22 (by omega) v187 y186 t189 _ _ _ (fun k_ => some k_ ≠ (.slice Ao188 t183.length co188 : Value).ownBlock /\ some k_ ≠ (.slice Ao191 t189.length co191 : Value).ownBlock) (fun _ => False) rfl rfl ?aO ?aR (fun _ _ h => h) (fun _ h => h.elim) ?aF ?aB ?aS ?aL ?_; (case aR => repeat (first | exact (Kd.R_reads' HO191.out).2.2 | (with_reducible refine Kd.C_alloc ?_ _) | (with_reducible refine Kd.C_drewN ?_ _) | (with_reducible refine Kd.C_drew ?_))); (case aB => exact q_2); (case aF => exact (fun k_ hk => ⟨Kd.fresh' (Kd.R_lt q_7) k_ hk, Kd.fresh' (Kd.R_lt q_9) k_ hk⟩)); (case aO => exact q_12); (case aS => exact (below_size q_2)); (case aL => have := LMc130.out; omega); intro v193 w190 ho hb hg hat; rw [← Ny192.out] at ho; have n0_ := Aside0.mk (blk_grown (g := gb156) (o := .cells #[.int .i64 a0_0, .slice A0_1 l0_1.length c0_1] 47 (0, 0)) q_3 hg (Kd.R_ne HO188.out BK156.out q_22)); have n1_ := Aside0.mk (Kd.V_afterv (ok := (fun k_ => some k_ ≠ (.slice Ao188 t183.length co188 : Value).ownBlock /\ some k_ ≠ (.slice Ao191 t189.length co191 : Value).ownBlock /\ k_ ≠ gb156 /\ k_ ≠ gb165)) q_15 hg hat); have n2_ := Aside0.mk (blk_grown (g := gb165) (o := .cells #[.int .i64 t160, .slice Ao181 t161.length co181] 47 (0, 0)) q_5 hg (Kd.R_ne HO188.out BK165.out q_22)); have n3_ := Aside0.mk (Kd.R_after (ok := (fun k_ => some k_ ≠ (.slice Ao191 t189.length co191 : Value).ownBlock)) q_18 hg hat); have n4_ := Aside0.mk (Kd.R_after (ok := (fun k_ => some k_ ≠ (.slice Ao188 t183.length co188 : Value).ownBlock)) q_17 hg hat); have n5_ := Aside0.mk (hb); have n6_ := Aside0.mk (ho); clear BK156; clear HO163; clear BK165; clear HO185; clear HO191; clear HB; clear HO188; have BK156 := n0_; have HO163 := n1_; have BK165 := n2_; have HO185 := n3_; have HO191 := n4_; have HB := n5_; have HO194 := n6_; clear n0_ n1_ n2_ n3_ n4_ n5_ n6_; clear ho hb hg hat; have hcz192_0 : w190.cell? ⟨gb156, 0, none⟩ = some (.int .i64 a0_0) := (blk_cell BK156.out 0).trans rfl; have hcz192_1 : w190.cell? ⟨gb156, 1, none⟩ = some (.slice A0_1 l0_1.length c0_1) := (blk_cell BK156.out 1).trans rfl; have hfz192_0 := blk_frozen BK156.out 0; have hfz192_1 := blk_frozen BK156.out 1) | (go_at_call 33; (with_reducible refine (outbox_Next.calls a0_0 _ _ l0_1 t195 _ ?side1 ?side2 A132.out).mono ?_); (case side1 => repeat (first | exact (Kd.C_below HR0_1.out HB.out) | (with_reducible refine Kd.C_alloc ?_ _) | (with_reducible refine Kd.C_drewN ?_ _) | (with_reducible refine Kd.C_drew ?_))); (case side2 => exact HC0_1.out); rintro e w193 ⟨rfl, hb⟩; have n0_ := Aside0.mk (Kd.V_below q_6 hb); have n1_ := Aside0.mk (Kd.R_below q_7 hb); have n2_ := Aside0.mk (Kd.R_below q_9 hb); have n3_ := Aside0.mk (Kd.R_below q_13 hb); have n4_ := Aside0.mk (blk_below (g := gb156) (o := .cells #[.int .i64 a0_0, .slice A0_1 l0_1.length c0_1] 47 (0, 0)) q_3 hb); have n5_ := Aside0.mk (blk_below (g := gb165) (o := .cells #[.int .i64 t160, .slice Ao181 t161.length co181] 47 (0, 0)) q_5 hb); have n6_ := Aside0.mk (below_step q_2 hb); clear HO163; clear HO185; clear HO191; clear HO194; clear BK156; clear BK165; clear HB; have HO163 := n0_; have HO185 := n1_; have HO191 := n2_; have HO194 := n3_; have BK156 := n4_; have BK165 := n5_; have HB := n6_; clear n0_ n1_ n2_ n3_ n4_ n5_ n6_; (try clear hb); (try clear hb2); (try clear hk); (try clear hi); have hcz194_0 : w193.cell? ⟨gb165, 0, none⟩ = some (.int .i64 t160) := (blk_cell BK165.out 0).trans rfl; have hcz194_1 : w193.cell? ⟨gb165, 1, none⟩ = some (.slice Ao181 t161.length co181) := (blk_cell BK165.out 1).trans rfl; have hfz194_0 := blk_frozen BK165.out 0; have hfz194_1 := blk_frozen BK165.out 1) | (go_at_call 33; (with_reducible refine (outbox_Next.calls t160 _ _ t161 t196 _ ?side1 ?side2 A134.out).mono ?_); (case side1 => repeat (first | exact (Kd.V_reads' HO163.out).2.2 | (with_reducible refine Kd.C_alloc ?_ _) | (with_reducible refine Kd.C_drewN ?_ _) | (with_reducible refine Kd.C_drew ?_))); (case side2 => exact (Kd.V_reads' HO163.out).2.1); rintro e w195 ⟨rfl, hb⟩; have n0_ := Aside0.mk (Kd.V_below q_6 hb); have n1_ := Aside0.mk (Kd.R_below q_7 hb); have n2_ := Aside0.mk (Kd.R_below q_9 hb); have n3_ := Aside0.mk (Kd.R_below q_13 hb); have n4_ := Aside0.mk (blk_below (g := gb156) (o := .cells #[.int .i64 a0_0, .slice A0_1 l0_1.length c0_1] 47 (0, 0)) q_3 hb); have n5_ := Aside0.mk (blk_below (g := gb165) (o := .cells #[.int .i64 t160, .slice Ao181 t161.length co181] 47 (0, 0)) q_5 hb); have n6_ := Aside0.mk (below_step q_2 hb); clear HO163; clear HO185; clear HO191; clear HO194; clear BK156; clear BK165; clear HB; have HO163 := n0_; have HO185 := n1_; have HO191 := n2_; have HO194 := n3_; have BK156 := n4_; have BK165 := n5_; have HB := n6_; clear n0_ n1_ n2_ n3_ n4_ n5_ n6_; (try clear hb); (try clear hb2); (try clear hk); (try clear hi); have hcz196_0 : w195.cell? ⟨gb165, 0, none⟩ = some (.int .i64 t160) := (blk_cell BK165.out 0).trans rfl; have hcz196_1 : w195.cell? ⟨gb165, 1, none⟩ = some (.slice Ao181 t161.length co181) := (blk_cell BK165.out 1).trans rfl; have hfz196_0 := blk_frozen BK165.out 0; have hfz196_1 := blk_frozen BK165.out 1; have hcz197_0 : w195.cell? ⟨gb156, 0, none⟩ = some (.int .i64 a0_0) := (blk_cell BK156.out 0).trans rfl; have hcz197_1 : w195.cell? ⟨gb156, 1, none⟩ = some (.slice A0_1 l0_1.length c0_1) := (blk_cell BK156.out 1).trans rfl; have hfz197_0 := blk_frozen BK156.out 0; have hfz197_1 := blk_frozen BK156.out 1) | (go_at_call 31; (with_reducible refine (batonlaw31_keys.calls kj4 t160 _ _ t161 t197 _ ?side1 ?side2 A137.out).mono ?_); (case side1 => repeat (first | exact (Kd.V_reads' HO163.out).2.2 | (with_reducible refine Kd.C_alloc ?_ _) | (with_reducible refine Kd.C_drewN ?_ _) | (with_reducible refine Kd.C_drew ?_))); (case side2 => exact (Kd.V_reads' HO163.out).2.1); rintro e w198 ⟨v198, rfl, ho0, hb⟩; have n0_ := Aside0.mk (Kd.V_elder' q_6 (Kd.R_base ho0) hb); have n1_ := Aside0.mk (Kd.R_elder' q_7 (Kd.R_base ho0) hb); have n2_ := Aside0.mk (Kd.R_elder' q_9 (Kd.R_base ho0) hb); have n3_ := Aside0.mk (Kd.R_elder' q_13 (Kd.R_base ho0) hb); have n4_ := Aside0.mk (Kd.R_lower (Kd.R_new' (Kd.R_new' (Kd.R_new' ho0 (Kd.R_lt q_7)) (Kd.R_lt q_9)) (Kd.R_lt q_13)) (below_size q_2)); have n5_ := Aside0.mk (blk_below (g := gb156) (o := .cells #[.int .i64 a0_0, .slice A0_1 l0_1.length c0_1] 47 (0, 0)) q_3 hb); have n6_ := Aside0.mk (blk_below (g := gb165) (o := .cells #[.int .i64 t160, .slice Ao181 t161.length co181] 47 (0, 0)) q_5 hb); have n7_ := Aside0.mk (below_step q_2 hb); clear HO163; clear HO185; clear HO191; clear HO194; clear BK156; clear BK165; clear HB; have HO163 := n0_; have HO185 := n1_; have HO191 := n2_; have HO194 := n3_; have HO199 := n4_; have BK156 := n5_; have BK165 := n6_; have HB := n7_; clear n0_ n1_ n2_ n3_ n4_ n5_ n6_ n7_; (try clear hb); (try clear hb2); (try clear hk); (try clear hi); (try clear ho0); obtain ⟨Ao199, co199, eo199⟩ := Kd.R_slice HO199.out; subst eo199; obtain ⟨Ao200, co200, eo200⟩ := Kd.R_slice HO194.out; subst eo200) | (go_at_call 30; (with_reducible refine (batonref31_Same.calls kj4 _ _ t197 _ _ y192 false _ ?side1 ?side2 ?side3 ?side4 A138.out).mono ?_); (case side1 => repeat (first | exact (Kd.R_reads' HO199.out).2.2 | (with_reducible refine Kd.C_alloc ?_ _) | (with_reducible refine Kd.C_drewN ?_ _) | (with_reducible refine Kd.C_drew ?_))); (case side2 => exact (Kd.R_reads' HO199.out).2.1); (case side3 => repeat (first | exact (Kd.R_reads' HO194.out).2.2 | (with_reducible refine Kd.C_alloc ?_ _) | (with_reducible refine Kd.C_drewN ?_ _) | (with_reducible refine Kd.C_drew ?_))); (case side4 => exact (Kd.R_reads' HO194.out).2.1); rintro e w' ⟨rfl, ⟨nd, rfl⟩⟩))
                go_ret
                exact ⟨by first | rfl | (simp [errW_none, errW_some] <;> rfl) | (simp [*, errW_none, errW_some] <;> rfl), by repeat (first | (with_reducible first | exact HB.out | apply below_alloc | apply pw_below_drewN | apply below_drew1 | refine below_set ?_ GE156.out | refine below_set ?_ GE165.out) | exact HB.out)⟩
              ·rw [if_neg c136] at H
               have c136b0 : (t160 == a0_0) = false := beq_eq_false_iff_ne.mpr c136
               have c136b1 : (t160 != a0_0) = true := bne_iff_ne.mpr c136
               obtain rfl := Option.some.inj H
               have hcz201_0 : wc.cell? ⟨gb156, 0, none⟩ = some (.int .i64 a0_0) := (blk_cell BK156.out 0).trans rfl
               have hcz201_1 : wc.cell? ⟨gb156, 1, none⟩ = some (.slice A0_1 l0_1.length c0_1) := (blk_cell BK156.out 1).trans rfl
               have hfz201_0 := blk_frozen BK156.out 0
               have hfz201_1 := blk_frozen BK156.out 1
               go_wp2_with (first | ((with_reducible refine gate_callee (f := 28) rfl ?_); refine goesL_ (some 22) rfl rfl Try.func28 q_10 rfl #[.agg #[.int .i64 a0_0, .slice A0_1 l0_1.length c0_1]] rfl q_4 ?_; (with_reducible refine (batonlaw31_right.calls a0_0 _ _ l0_1 true _ ?side1 ?side2 A12.out).mono ?_); (case side1 => repeat (first | exact (Kd.C_below HR0_1.out HB.out) | (with_reducible refine Kd.C_alloc ?_ _) | (with_reducible refine Kd.C_drewN ?_ _) | (with_reducible refine Kd.C_drew ?_))); (case side2 => exact HC0_1.out); rintro e w202 ⟨rfl, hb⟩; refine ⟨_, rfl, ?_⟩; have n0_ := Aside0.mk (blk_below (g := gb156) (o := .cells #[.int .i64 a0_0, .slice A0_1 l0_1.length c0_1] 47 (0, 0)) q_3 hb); have n1_ := Aside0.mk (below_step q_1 hb); clear BK156; clear HB; have BK156 := n0_; have HB := n1_; clear n0_ n1_; (try clear hb); (try clear hb2); (try clear hk); (try clear hi); have hcz203_0 : w202.cell? ⟨gb156, 0, none⟩ = some (.int .i64 a0_0) := (blk_cell BK156.out 0).trans rfl; have hcz203_1 : w202.cell? ⟨gb156, 1, none⟩ = some (.slice A0_1 l0_1.length c0_1) := (blk_cell BK156.out 1).trans rfl; have hfz203_0 := blk_frozen BK156.out 0; have hfz203_1 := blk_frozen BK156.out 1) | ((with_reducible refine gate_callee (f := 29) rfl ?_); refine goesL_ (some 24) rfl rfl Try.func29 q_10 rfl #[.agg #[.int .i64 a0_0, .slice A0_1 l0_1.length c0_1]] rfl q_4 ?_; (with_reducible refine (outbox_Right.calls a0_0 _ _ l0_1 t159 _ ?side1 ?side2 A13.out).mono ?_); (case side1 => repeat (first | exact (Kd.C_below HR0_1.out HB.out) | (with_reducible refine Kd.C_alloc ?_ _) | (with_reducible refine Kd.C_drewN ?_ _) | (with_reducible refine Kd.C_drew ?_))); (case side2 => exact HC0_1.out); rintro e w204 ⟨rfl, hb⟩; refine ⟨_, rfl, ?_⟩; have n0_ := Aside0.mk (blk_below (g := gb156) (o := .cells #[.int .i64 a0_0, .slice A0_1 l0_1.length c0_1] 47 (0, 0)) q_3 hb); have n1_ := Aside0.mk (below_step q_1 hb); clear BK156; clear HB; have BK156 := n0_; have HB := n1_; clear n0_ n1_; (try clear hb); (try clear hb2); (try clear hk); (try clear hi); have hcz205_0 : w204.cell? ⟨gb156, 0, none⟩ = some (.int .i64 a0_0) := (blk_cell BK156.out 0).trans rfl; have hcz205_1 : w204.cell? ⟨gb156, 1, none⟩ = some (.slice A0_1 l0_1.length c0_1) := (blk_cell BK156.out 1).trans rfl; have hfz205_0 := blk_frozen BK156.out 0; have hfz205_1 := blk_frozen BK156.out 1) | ((with_reducible refine gate_callee (f := 27) rfl ?_); refine goesL_ (some 38) rfl rfl Try.func27 q_10 rfl #[.agg #[.int .i64 a0_0, .slice A0_1 l0_1.length c0_1], .slice A1 l1.length c1] rfl q_4 ?_; (with_reducible refine (outbox_Put.calls kj4 a0_0 (fun k_ => k_ < w.heap.size) _ _ l0_1 (fun k_ => k_ < w.heap.size) _ _ l1 t160 t161 t164 _ ?side1 ?side2 A20.out).mono ?_); (case side1 => exact Kd.V_mk HC0_1.out (Kd.F_below (Kd.C_F (Kd.heap_int .u8) HR0_1.out) q_1)); (case side2 => exact Kd.V_mk HC1.out (Kd.F_below (Kd.C_F (Kd.heap_int .u8) HR1.out) q_1)); rintro e w206 ⟨v162, rfl, ho0, hb⟩; refine ⟨_, rfl, ?_⟩; have n0_ := Aside0.mk (Kd.V_lower (Kd.V_mono (ok' := fun k_ => k_ ≠ gb156) ho0 (fun k_ hk_ => Or.elim hk_ (fun hs_ => Or.elim hs_ (fun hs_ => fun e_ => Nat.not_le.2 hs_ q_21) (fun hs_ => fun e_ => Nat.not_le.2 hs_ q_21)) (fun hn_ => (Kd.freshB (g := gb156) (o := .cells #[.int .i64 a0_0, .slice A0_1 l0_1.length c0_1] 47 (0, 0)) q_3 k_ hn_)))) (below_size q_1)); have n1_ := Aside0.mk (blk_below (g := gb156) (o := .cells #[.int .i64 a0_0, .slice A0_1 l0_1.length c0_1] 47 (0, 0)) q_3 hb); have n2_ := Aside0.mk (below_step q_1 hb); clear BK156; clear HB; have HO163 := n0_; have BK156 := n1_; have HB := n2_; clear n0_ n1_ n2_; (try clear hb); (try clear hb2); (try clear hk); (try clear hi); (try clear ho0)) | ((with_reducible refine gate_dst (N := 7) rfl ?_); (try (refine gate_guard (by rfl) ?_; dsimp only)); refine box_event ?hg (N := 7) ?hd (cs := #[.int .i64 0, .slice none 0 0]) (t := 47) ?hr ?_; (case hd => rfl); (case hg => rfl); (case hr => first | (go_simp; done) | (go_simp; rfl)); intro gb165 hg w207 hbox hb; have n0_ := Aside0.mk (Kd.V_below (Kd.V_elderB q_6 gb165 (Nat.le_of_eq hg.symm)) hb); have n1_ := Aside0.mk (blk_below (g := gb156) (o := .cells #[.int .i64 a0_0, .slice A0_1 l0_1.length c0_1] 47 (0, 0)) q_3 hb); have n2_ := Aside0.mk (below_step q_1 hb); have n3_ := Aside0.mk (hbox); have n4_ := Aside0.mk ((by rw [hg]; exact (below_size q_1) : w.heap.size <= gb165)); have n5_ := Aside0.mk ((by rw [hg]; exact (below_size q_1) : w.heap.size <= gb165)); have n6_ := Aside0.mk ((by rw [hg]; exact Nat.ne_of_lt (blk_lt (g := gb156) (o := .cells #[.int .i64 a0_0, .slice A0_1 l0_1.length c0_1] 47 (0, 0)) q_3) : gb156 ≠ gb165)); have n7_ := Aside0.mk ((by rw [hg]; exact Nat.ne_of_gt (blk_lt (g := gb156) (o := .cells #[.int .i64 a0_0, .slice A0_1 l0_1.length c0_1] 47 (0, 0)) q_3) : gb165 ≠ gb156)); clear HO163; clear BK156; clear HB; have HO163 := n0_; have BK156 := n1_; have HB := n2_; have BK165 := n3_; have GW165 := n4_; have GE165 := n5_; have NB156_165 := n6_; have NB165_156 := n7_; clear n0_ n1_ n2_ n3_ n4_ n5_ n6_ n7_; clear hb hbox hg; have hnb208 := NB165_156.out; have hnc208 := NB156_165.out; have hcz209_0 : w207.cell? ⟨gb165, 0, none⟩ = some (.int .i64 0) := (blk_cell BK165.out 0).trans rfl; have hcz209_1 : w207.cell? ⟨gb165, 1, none⟩ = some (.slice none 0 0) := (blk_cell BK165.out 1).trans rfl; have hfz209_0 := blk_frozen BK165.out 0; have hfz209_1 := blk_frozen BK165.out 1; obtain ⟨Ao210, co210, eo210⟩ := Kd.V_slice HO163.out; subst eo210; have hcz211_0 : w207.cell? ⟨gb156, 0, none⟩ = some (.int .i64 a0_0) := (blk_cell BK156.out 0).trans rfl; have hcz211_1 : w207.cell? ⟨gb156, 1, none⟩ = some (.slice A0_1 l0_1.length c0_1) := (blk_cell BK156.out 1).trans rfl; have hfz211_0 := blk_frozen BK156.out 0; have hfz211_1 := blk_frozen BK156.out 1) | ((with_reducible refine gate_dst (N := 87) rfl ?_); (try (refine gate_guard (by rfl) ?_; dsimp only)); refine Kd.R_lit k140 _ 140 ?hg (N := 87) ?hd (xs := ([] : List (S140))) (inner := []) (ok := fun _ => True) (okp := fun _ => True) ?hr ?hp (fun _ hk => hk) trivial (Below.refl _ _) (Nat.le_refl _) (by simp) ?_; (case hd => rfl); (case hg => rfl); (case hr => first | (go_simp; done) | (go_simp; rfl)); (case hp => exact (Reps.none _ _)); intro v181 w212 ho213 hb hg_ hnew_; clear hg_ hnew_; (first | rw [← Ny180.out] at ho213 | (simp only [Int.reduceToNat] at ho213; rw [← Ny180.out] at ho213)); have n0_ := Aside0.mk (Kd.V_elder' (by (with_reducible repeat (first | apply Kd.V_alloc | apply Kd.V_drewN | apply Kd.V_drew)); exact (Kd.V_mono (Kd.V_far (p := ⟨gb165, 1, none⟩) (Kd.V_far (p := ⟨gb165, 0, none⟩) (Kd.V_mono HO163.out (fun k_ hk => (⟨hk, hk.2⟩ : _ /\ k_ ≠ gb165))) (fun _ hk => hk.2) (.int .i64 t160)) (fun _ hk => hk.2) (.slice Ao210 t161.length co210)) (fun _ h_ => h_.1))) (Kd.R_base ho213) hb); have n1_ := Aside0.mk (Kd.R_lower ho213 (below_size q_2)); have n2_ := Aside0.mk (blk_below (g := gb156) (o := .cells #[.int .i64 a0_0, .slice A0_1 l0_1.length c0_1] 47 (0, 0)) q_11 hb); have n3_ := Aside0.mk (blk_below (g := gb165) (o := .cells #[.int .i64 t160, .slice Ao210 t161.length co210] 47 (0, 0)) q_8 hb); have n4_ := Aside0.mk (below_step q_2 hb); clear HO163; clear BK156; clear BK165; clear HB; have HO163 := n0_; have HO182 := n1_; have BK156 := n2_; have BK165 := n3_; have HB := n4_; clear n0_ n1_ n2_ n3_ n4_; clear hb ho213; have hcz214_0 : w212.cell? ⟨gb156, 0, none⟩ = some (.int .i64 a0_0) := (blk_cell BK156.out 0).trans rfl; have hcz214_1 : w212.cell? ⟨gb156, 1, none⟩ = some (.slice A0_1 l0_1.length c0_1) := (blk_cell BK156.out 1).trans rfl; have hfz214_0 := blk_frozen BK156.out 0; have hfz214_1 := blk_frozen BK156.out 1) | ((with_reducible refine gate_callee (f := 31) rfl ?_); refine goesL_ (some 89) rfl rfl Try.func31 q_10 rfl #[.agg #[.int .i64 a0_0, .slice A0_1 l0_1.length c0_1]] rfl q_4 ?_; (with_reducible refine (batonlaw31_keys.calls kj4 a0_0 _ _ l0_1 t183 _ ?side1 ?side2 A127.out).mono ?_); (case side1 => repeat (first | exact (Kd.C_below HR0_1.out HB.out) | (with_reducible refine Kd.C_alloc ?_ _) | (with_reducible refine Kd.C_drewN ?_ _) | (with_reducible refine Kd.C_drew ?_))); (case side2 => exact HC0_1.out); rintro e w215 ⟨v184, rfl, ho0, hb⟩; refine ⟨_, rfl, ?_⟩; have n0_ := Aside0.mk (Kd.V_elder' q_6 (Kd.R_base ho0) hb); have n1_ := Aside0.mk (Kd.R_elder' q_14 (Kd.R_base ho0) hb); have n2_ := Aside0.mk (Kd.R_lower (Kd.R_new' ho0 (Kd.R_lt q_14)) (below_size q_2)); have n3_ := Aside0.mk (blk_below (g := gb156) (o := .cells #[.int .i64 a0_0, .slice A0_1 l0_1.length c0_1] 47 (0, 0)) q_3 hb); have n4_ := Aside0.mk (blk_below (g := gb165) (o := .cells #[.int .i64 t160, .slice Ao210 t161.length co210] 47 (0, 0)) q_5 hb); have n5_ := Aside0.mk (below_step q_2 hb); clear HO163; clear HO182; clear BK156; clear BK165; clear HB; have HO163 := n0_; have HO182 := n1_; have HO185 := n2_; have BK156 := n3_; have BK165 := n4_; have HB := n5_; clear n0_ n1_ n2_ n3_ n4_ n5_; (try clear hb); (try clear hb2); (try clear hk); (try clear hi); (try clear ho0); obtain ⟨Ao217, co217, eo217⟩ := Kd.R_slice HO185.out; subst eo217) | ((with_reducible refine gate_builtin (b := .append) (xs := #[.tmp 87, .tmp 89]) rfl ?_); (try (refine gate_guard (by rfl) ?_; dsimp only)); at_builtin; refine Kd.R_append_rows k140 (w0 := w) w.heap.size rfl (.tmp 87) (.tmp 89) 56 140 (.agg #[(.int .i64 0), (.int .u8 0)]) 16 rfl Try.underlying56 info140 rfl q_22 (by omega) v181 y180 t183 _ _ _ (fun k_ => some k_ ≠ (.slice Ao217 t183.length co217 : Value).ownBlock) (fun _ => False) rfl rfl ?aO ?aR (fun _ _ h => h) (fun _ h => h.elim) ?aF ?aB ?aS ?aL ?_; (case aR => repeat (first | exact (Kd.R_reads' HO185.out).2.2 | (with_reducible refine Kd.C_alloc ?_ _) | (with_reducible refine Kd.C_drewN ?_ _) | (with_reducible refine Kd.C_drew ?_))); (case aB => exact q_2); (case aF => exact (fun k_ hk => Kd.fresh' (Kd.R_lt q_7) k_ hk)); (case aO => exact q_19); (case aS => exact (below_size q_2)); (case aL => have := LMc128.out; omega); intro v187 w216 ho hb hg hat; rw [← Ny186.out] at ho; have n0_ := Aside0.mk (blk_grown (g := gb156) (o := .cells #[.int .i64 a0_0, .slice A0_1 l0_1.length c0_1] 47 (0, 0)) q_3 hg (Kd.R_ne HO182.out BK156.out q_22)); have n1_ := Aside0.mk (Kd.V_afterv (ok := (fun k_ => some k_ ≠ (.slice Ao217 t183.length co217 : Value).ownBlock /\ k_ ≠ gb156 /\ k_ ≠ gb165)) q_16 hg hat); have n2_ := Aside0.mk (blk_grown (g := gb165) (o := .cells #[.int .i64 t160, .slice Ao210 t161.length co210] 47 (0, 0)) q_5 hg (Kd.R_ne HO182.out BK165.out q_22)); have n3_ := Aside0.mk (Kd.R_after (ok := (fun _ => True)) q_7 hg hat); have n4_ := Aside0.mk (hb); have n5_ := Aside0.mk (ho); clear BK156; clear HO163; clear BK165; clear HO185; clear HB; clear HO182; have BK156 := n0_; have HO163 := n1_; have BK165 := n2_; have HO185 := n3_; have HB := n4_; have HO188 := n5_; clear n0_ n1_ n2_ n3_ n4_ n5_; clear ho hb hg hat) | ((with_reducible refine gate_callee (f := 32) rfl ?_); refine goesL_ (some 93) rfl rfl Try.func32 q_10 rfl #[.int .i64 (wrap64 (a0_0 + (l0_1.length : Int))), .slice A1 l1.length c1] rfl q_4 ?_; (with_reducible refine (batonref31_Keys.calls kj4 (wrap64 (a0_0 + (l0_1.length : Int))) _ _ l1 t189 _ ?side1 ?side2 A129.out).mono ?_); (case side1 => repeat (first | exact (Kd.C_below HR1.out HB.out) | (with_reducible refine Kd.C_alloc ?_ _) | (with_reducible refine Kd.C_drewN ?_ _) | (with_reducible refine Kd.C_drew ?_))); (case side2 => exact HC1.out); rintro e w218 ⟨v190, rfl, ho0, hb⟩; refine ⟨_, rfl, ?_⟩; have n0_ := Aside0.mk (Kd.V_elder' q_6 (Kd.R_base ho0) hb); have n1_ := Aside0.mk (Kd.R_elder' q_7 (Kd.R_base ho0) hb); have n2_ := Aside0.mk (Kd.R_elder' q_12 (Kd.R_base ho0) hb); have n3_ := Aside0.mk (Kd.R_lower (Kd.R_new' (Kd.R_new' ho0 (Kd.R_lt q_7)) (Kd.R_lt q_12)) (below_size q_2)); have n4_ := Aside0.mk (blk_below (g := gb156) (o := .cells #[.int .i64 a0_0, .slice A0_1 l0_1.length c0_1] 47 (0, 0)) q_3 hb); have n5_ := Aside0.mk (blk_below (g := gb165) (o := .cells #[.int .i64 t160, .slice Ao210 t161.length co210] 47 (0, 0)) q_5 hb); have n6_ := Aside0.mk (below_step q_2 hb); clear HO163; clear HO185; clear HO188; clear BK156; clear BK165; clear HB; have HO163 := n0_; have HO185 := n1_; have HO188 := n2_; have HO191 := n3_; have BK156 := n4_; have BK165 := n5_; have HB := n6_; clear n0_ n1_ n2_ n3_ n4_ n5_ n6_; (try clear hb); (try clear hb2); (try clear hk); (try clear hi); (try clear ho0); obtain ⟨Ao220, co220, eo220⟩ := Kd.R_slice HO191.out; subst eo220) | ((with_reducible refine gate_builtin (b := .append) (xs := #[.tmp 90, .tmp 93]) rfl ?_); (try (refine gate_guard (by rfl) ?_; dsimp only)); at_builtin; refine Kd.R_append_rows k140 (w0 := w) w.heap.size rfl (.tmp 90) (.tmp 93) 56 140 (.agg #[(.int .i64 0), (.int .u8 0)]) 16 rfl Try.underlying56 info140 rfl q_22 (by omega) v187 y186 t189 _ _ _ (fun k_ => some k_ ≠ (.slice Ao217 t183.length co217 : Value).ownBlock /\ some k_ ≠ (.slice Ao220 t189.length co220 : Value).ownBlock) (fun _ => False) rfl rfl ?aO ?aR (fun _ _ h => h) (fun _ h => h.elim) ?aF ?aB ?aS ?aL ?_; (case aR => repeat (first | exact (Kd.R_reads' HO191.out).2.2 | (with_reducible refine Kd.C_alloc ?_ _) | (with_reducible refine Kd.C_drewN ?_ _) | (with_reducible refine Kd.C_drew ?_))); (case aB => exact q_2); (case aF => exact (fun k_ hk => ⟨Kd.fresh' (Kd.R_lt q_7) k_ hk, Kd.fresh' (Kd.R_lt q_9) k_ hk⟩)); (case aO => exact q_12); (case aS => exact (below_size q_2)); (case aL => have := LMc130.out; omega); intro v193 w219 ho hb hg hat; rw [← Ny192.out] at ho; have n0_ := Aside0.mk (blk_grown (g := gb156) (o := .cells #[.int .i64 a0_0, .slice A0_1 l0_1.length c0_1] 47 (0, 0)) q_3 hg (Kd.R_ne HO188.out BK156.out q_22)); have n1_ := Aside0.mk (Kd.V_afterv (ok := (fun k_ => some k_ ≠ (.slice Ao217 t183.length co217 : Value).ownBlock /\ some k_ ≠ (.slice Ao220 t189.length co220 : Value).ownBlock /\ k_ ≠ gb156 /\ k_ ≠ gb165)) q_15 hg hat); have n2_ := Aside0.mk (blk_grown (g := gb165) (o := .cells #[.int .i64 t160, .slice Ao210 t161.length co210] 47 (0, 0)) q_5 hg (Kd.R_ne HO188.out BK165.out q_22)); have n3_ := Aside0.mk (Kd.R_after (ok := (fun k_ => some k_ ≠ (.slice Ao220 t189.length co220 : Value).ownBlock)) q_18 hg hat); have n4_ := Aside0.mk (Kd.R_after (ok := (fun k_ => some k_ ≠ (.slice Ao217 t183.length co217 : Value).ownBlock)) q_17 hg hat); have n5_ := Aside0.mk (hb); have n6_ := Aside0.mk (ho); clear BK156; clear HO163; clear BK165; clear HO185; clear HO191; clear HB; clear HO188; have BK156 := n0_; have HO163 := n1_; have BK165 := n2_; have HO185 := n3_; have HO191 := n4_; have HB := n5_; have HO194 := n6_; clear n0_ n1_ n2_ n3_ n4_ n5_ n6_; clear ho hb hg hat; have hcz221_0 : w219.cell? ⟨gb156, 0, none⟩ = some (.int .i64 a0_0) := (blk_cell BK156.out 0).trans rfl; have hcz221_1 : w219.cell? ⟨gb156, 1, none⟩ = some (.slice A0_1 l0_1.length c0_1) := (blk_cell BK156.out 1).trans rfl; have hfz221_0 := blk_frozen BK156.out 0; have hfz221_1 := blk_frozen BK156.out 1) | (go_at_call 33; (with_reducible refine (outbox_Next.calls a0_0 _ _ l0_1 t195 _ ?side1 ?side2 A132.out).mono ?_); (case side1 => repeat (first | exact (Kd.C_below HR0_1.out HB.out) | (with_reducible refine Kd.C_alloc ?_ _) | (with_reducible refine Kd.C_drewN ?_ _) | (with_reducible refine Kd.C_drew ?_))); (case side2 => exact HC0_1.out); rintro e w222 ⟨rfl, hb⟩; have n0_ := Aside0.mk (Kd.V_below q_6 hb); have n1_ := Aside0.mk (Kd.R_below q_7 hb); have n2_ := Aside0.mk (Kd.R_below q_9 hb); have n3_ := Aside0.mk (Kd.R_below q_13 hb); have n4_ := Aside0.mk (blk_below (g := gb156) (o := .cells #[.int .i64 a0_0, .slice A0_1 l0_1.length c0_1] 47 (0, 0)) q_3 hb); have n5_ := Aside0.mk (blk_below (g := gb165) (o := .cells #[.int .i64 t160, .slice Ao210 t161.length co210] 47 (0, 0)) q_5 hb); have n6_ := Aside0.mk (below_step q_2 hb); clear HO163; clear HO185; clear HO191; clear HO194; clear BK156; clear BK165; clear HB; have HO163 := n0_; have HO185 := n1_; have HO191 := n2_; have HO194 := n3_; have BK156 := n4_; have BK165 := n5_; have HB := n6_; clear n0_ n1_ n2_ n3_ n4_ n5_ n6_; (try clear hb); (try clear hb2); (try clear hk); (try clear hi); have hcz223_0 : w222.cell? ⟨gb165, 0, none⟩ = some (.int .i64 t160) := (blk_cell BK165.out 0).trans rfl; have hcz223_1 : w222.cell? ⟨gb165, 1, none⟩ = some (.slice Ao210 t161.length co210) := (blk_cell BK165.out 1).trans rfl; have hfz223_0 := blk_frozen BK165.out 0; have hfz223_1 := blk_frozen BK165.out 1) | (go_at_call 33; (with_reducible refine (outbox_Next.calls t160 _ _ t161 t196 _ ?side1 ?side2 A134.out).mono ?_); (case side1 => repeat (first | exact (Kd.V_reads' HO163.out).2.2 | (with_reducible refine Kd.C_alloc ?_ _) | (with_reducible refine Kd.C_drewN ?_ _) | (with_reducible refine Kd.C_drew ?_))); (case side2 => exact (Kd.V_reads' HO163.out).2.1); rintro e w224 ⟨rfl, hb⟩; have n0_ := Aside0.mk (Kd.V_below q_6 hb); have n1_ := Aside0.mk (Kd.R_below q_7 hb); have n2_ := Aside0.mk (Kd.R_below q_9 hb); have n3_ := Aside0.mk (Kd.R_below q_13 hb); have n4_ := Aside0.mk (blk_below (g := gb156) (o := .cells #[.int .i64 a0_0, .slice A0_1 l0_1.length c0_1] 47 (0, 0)) q_3 hb); have n5_ := Aside0.mk (blk_below (g := gb165) (o := .cells #[.int .i64 t160, .slice Ao210 t161.length co210] 47 (0, 0)) q_5 hb); have n6_ := Aside0.mk (below_step q_2 hb); clear HO163; clear HO185; clear HO191; clear HO194; clear BK156; clear BK165; clear HB; have HO163 := n0_; have HO185 := n1_; have HO191 := n2_; have HO194 := n3_; have BK156 := n4_; have BK165 := n5_; have HB := n6_; clear n0_ n1_ n2_ n3_ n4_ n5_ n6_; (try clear hb); (try clear hb2); (try clear hk); (try clear hi); have hcz225_0 : w224.cell? ⟨gb165, 0, none⟩ = some (.int .i64 t160) := (blk_cell BK165.out 0).trans rfl; have hcz225_1 : w224.cell? ⟨gb165, 1, none⟩ = some (.slice Ao210 t161.length co210) := (blk_cell BK165.out 1).trans rfl; have hfz225_0 := blk_frozen BK165.out 0; have hfz225_1 := blk_frozen BK165.out 1; have hcz226_0 : w224.cell? ⟨gb156, 0, none⟩ = some (.int .i64 a0_0) := (blk_cell BK156.out 0).trans rfl; have hcz226_1 : w224.cell? ⟨gb156, 1, none⟩ = some (.slice A0_1 l0_1.length c0_1) := (blk_cell BK156.out 1).trans rfl; have hfz226_0 := blk_frozen BK156.out 0; have hfz226_1 := blk_frozen BK156.out 1))
               go_ret
               exact ⟨by first | rfl | (simp [errW_none, errW_some] <;> rfl) | (simp [*, errW_none, errW_some] <;> rfl), by repeat (first | (with_reducible first | exact HB.out | apply below_alloc | apply pw_below_drewN | apply below_drew1 | refine below_set ?_ GE156.out | refine below_set ?_ GE165.out) | exact HB.out)⟩
             ·rw [if_neg c135] at H
              have c135b0 : (t196 == (wrap64 ((wrap64 (a0_0 + (l0_1.length : Int))) + (l1.length : Int)))) = false := beq_eq_false_iff_ne.mpr c135
              have c135b1 : (t196 != (wrap64 ((wrap64 (a0_0 + (l0_1.length : Int))) + (l1.length : Int)))) = true := bne_iff_ne.mpr c135
              obtain rfl := Option.some.inj H
              have hcz227_0 : wc.cell? ⟨gb156, 0, none⟩ = some (.int .i64 a0_0) := (blk_cell BK156.out 0).trans rfl
              have hcz227_1 : wc.cell? ⟨gb156, 1, none⟩ = some (.slice A0_1 l0_1.length c0_1) := (blk_cell BK156.out 1).trans rfl
              have hfz227_0 := blk_frozen BK156.out 0
              have hfz227_1 := blk_frozen BK156.out 1
              go_wp2_with (first | ((with_reducible refine gate_callee (f := 28) rfl ?_); refine goesL_ (some 22) rfl rfl Try.func28 q_10 rfl #[.agg #[.int .i64 a0_0, .slice A0_1 l0_1.length c0_1]] rfl q_4 ?_; (with_reducible refine (batonlaw31_right.calls a0_0 _ _ l0_1 true _ ?side1 ?side2 A12.out).mono ?_); (case side1 => repeat (first | exact (Kd.C_below HR0_1.out HB.out) | (with_reducible refine Kd.C_alloc ?_ _) | (with_reducible refine Kd.C_drewN ?_ _) | (with_reducible refine Kd.C_drew ?_))); (case side2 => exact HC0_1.out); rintro e w228 ⟨rfl, hb⟩; refine ⟨_, rfl, ?_⟩; have n0_ := Aside0.mk (blk_below (g := gb156) (o := .cells #[.int .i64 a0_0, .slice A0_1 l0_1.length c0_1] 47 (0, 0)) q_3 hb); have n1_ := Aside0.mk (below_step q_1 hb); clear BK156; clear HB; have BK156 := n0_; have HB := n1_; clear n0_ n1_; (try clear hb); (try clear hb2); (try clear hk); (try clear hi); have hcz229_0 : w228.cell? ⟨gb156, 0, none⟩ = some (.int .i64 a0_0) := (blk_cell BK156.out 0).trans rfl; have hcz229_1 : w228.cell? ⟨gb156, 1, none⟩ = some (.slice A0_1 l0_1.length c0_1) := (blk_cell BK156.out 1).trans rfl; have hfz229_0 := blk_frozen BK156.out 0; have hfz229_1 := blk_frozen BK156.out 1) | ((with_reducible refine gate_callee (f := 29) rfl ?_); refine goesL_ (some 24) rfl rfl Try.func29 q_10 rfl #[.agg #[.int .i64 a0_0, .slice A0_1 l0_1.length c0_1]] rfl q_4 ?_; (with_reducible refine (outbox_Right.calls a0_0 _ _ l0_1 t159 _ ?side1 ?side2 A13.out).mono ?_); (case side1 => repeat (first | exact (Kd.C_below HR0_1.out HB.out) | (with_reducible refine Kd.C_alloc ?_ _) | (with_reducible refine Kd.C_drewN ?_ _) | (with_reducible refine Kd.C_drew ?_))); (case side2 => exact HC0_1.out); rintro e w230 ⟨rfl, hb⟩; refine ⟨_, rfl, ?_⟩; have n0_ := Aside0.mk (blk_below (g := gb156) (o := .cells #[.int .i64 a0_0, .slice A0_1 l0_1.length c0_1] 47 (0, 0)) q_3 hb); have n1_ := Aside0.mk (below_step q_1 hb); clear BK156; clear HB; have BK156 := n0_; have HB := n1_; clear n0_ n1_; (try clear hb); (try clear hb2); (try clear hk); (try clear hi); have hcz231_0 : w230.cell? ⟨gb156, 0, none⟩ = some (.int .i64 a0_0) := (blk_cell BK156.out 0).trans rfl; have hcz231_1 : w230.cell? ⟨gb156, 1, none⟩ = some (.slice A0_1 l0_1.length c0_1) := (blk_cell BK156.out 1).trans rfl; have hfz231_0 := blk_frozen BK156.out 0; have hfz231_1 := blk_frozen BK156.out 1) | ((with_reducible refine gate_callee (f := 27) rfl ?_); refine goesL_ (some 38) rfl rfl Try.func27 q_10 rfl #[.agg #[.int .i64 a0_0, .slice A0_1 l0_1.length c0_1], .slice A1 l1.length c1] rfl q_4 ?_; (with_reducible refine (outbox_Put.calls kj4 a0_0 (fun k_ => k_ < w.heap.size) _ _ l0_1 (fun k_ => k_ < w.heap.size) _ _ l1 t160 t161 t164 _ ?side1 ?side2 A20.out).mono ?_); (case side1 => exact Kd.V_mk HC0_1.out (Kd.F_below (Kd.C_F (Kd.heap_int .u8) HR0_1.out) q_1)); (case side2 => exact Kd.V_mk HC1.out (Kd.F_below (Kd.C_F (Kd.heap_int .u8) HR1.out) q_1)); rintro e w232 ⟨v162, rfl, ho0, hb⟩; refine ⟨_, rfl, ?_⟩; have n0_ := Aside0.mk (Kd.V_lower (Kd.V_mono (ok' := fun k_ => k_ ≠ gb156) ho0 (fun k_ hk_ => Or.elim hk_ (fun hs_ => Or.elim hs_ (fun hs_ => fun e_ => Nat.not_le.2 hs_ q_21) (fun hs_ => fun e_ => Nat.not_le.2 hs_ q_21)) (fun hn_ => (Kd.freshB (g := gb156) (o := .cells #[.int .i64 a0_0, .slice A0_1 l0_1.length c0_1] 47 (0, 0)) q_3 k_ hn_)))) (below_size q_1)); have n1_ := Aside0.mk (blk_below (g := gb156) (o := .cells #[.int .i64 a0_0, .slice A0_1 l0_1.length c0_1] 47 (0, 0)) q_3 hb); have n2_ := Aside0.mk (below_step q_1 hb); clear BK156; clear HB; have HO163 := n0_; have BK156 := n1_; have HB := n2_; clear n0_ n1_ n2_; (try clear hb); (try clear hb2); (try clear hk); (try clear hi); (try clear ho0)) | ((with_reducible refine gate_dst (N := 7) rfl ?_); (try (refine gate_guard (by rfl) ?_; dsimp only)); refine box_event ?hg (N := 7) ?hd (cs := #[.int .i64 0, .slice none 0 0]) (t := 47) ?hr ?_; (case hd => rfl); (case hg => rfl); (case hr => first | (go_simp; done) | (go_simp; rfl)); intro gb165 hg w233 hbox hb; have n0_ := Aside0.mk (Kd.V_below (Kd.V_elderB q_6 gb165 (Nat.le_of_eq hg.symm)) hb); have n1_ := Aside0.mk (blk_below (g := gb156) (o := .cells #[.int .i64 a0_0, .slice A0_1 l0_1.length c0_1] 47 (0, 0)) q_3 hb); have n2_ := Aside0.mk (below_step q_1 hb); have n3_ := Aside0.mk (hbox); have n4_ := Aside0.mk ((by rw [hg]; exact (below_size q_1) : w.heap.size <= gb165)); have n5_ := Aside0.mk ((by rw [hg]; exact (below_size q_1) : w.heap.size <= gb165)); have n6_ := Aside0.mk ((by rw [hg]; exact Nat.ne_of_lt (blk_lt (g := gb156) (o := .cells #[.int .i64 a0_0, .slice A0_1 l0_1.length c0_1] 47 (0, 0)) q_3) : gb156 ≠ gb165)); have n7_ := Aside0.mk ((by rw [hg]; exact Nat.ne_of_gt (blk_lt (g := gb156) (o := .cells #[.int .i64 a0_0, .slice A0_1 l0_1.length c0_1] 47 (0, 0)) q_3) : gb165 ≠ gb156)); clear HO163; clear BK156; clear HB; have HO163 := n0_; have BK156 := n1_; have HB := n2_; have BK165 := n3_; have GW165 := n4_; have GE165 := n5_; have NB156_165 := n6_; have NB165_156 := n7_; clear n0_ n1_ n2_ n3_ n4_ n5_ n6_ n7_; clear hb hbox hg; have hnb234 := NB165_156.out; have hnc234 := NB156_165.out; have hcz235_0 : w233.cell? ⟨gb165, 0, none⟩ = some (.int .i64 0) := (blk_cell BK165.out 0).trans rfl; have hcz235_1 : w233.cell? ⟨gb165, 1, none⟩ = some (.slice none 0 0) := (blk_cell BK165.out 1).trans rfl; have hfz235_0 := blk_frozen BK165.out 0; have hfz235_1 := blk_frozen BK165.out 1; obtain ⟨Ao236, co236, eo236⟩ := Kd.V_slice HO163.out; subst eo236; have hcz237_0 : w233.cell? ⟨gb156, 0, none⟩ = some (.int .i64 a0_0) := (blk_cell BK156.out 0).trans rfl; have hcz237_1 : w233.cell? ⟨gb156, 1, none⟩ = some (.slice A0_1 l0_1.length c0_1) := (blk_cell BK156.out 1).trans rfl; have hfz237_0 := blk_frozen BK156.out 0; have hfz237_1 := blk_frozen BK156.out 1) | ((with_reducible refine gate_dst (N := 87) rfl ?_); (try (refine gate_guard (by rfl) ?_; dsimp only)); refine Kd.R_lit k140 _ 140 ?hg (N := 87) ?hd (xs := ([] : List (S140))) (inner := []) (ok := fun _ => True) (okp := fun _ => True) ?hr ?hp (fun _ hk => hk) trivial (Below.refl _ _) (Nat.le_refl _) (by simp) ?_; (case hd => rfl); (case hg => rfl); (case hr => first | (go_simp; done) | (go_simp; rfl)); (case hp => exact (Reps.none _ _)); intro v181 w238 ho239 hb hg_ hnew_; clear hg_ hnew_; (first | rw [← Ny180.out] at ho239 | (simp only [Int.reduceToNat] at ho239; rw [← Ny180.out] at ho239)); have n0_ := Aside0.mk (Kd.V_elder' (by (with_reducible repeat (first | apply Kd.V_alloc | apply Kd.V_drewN | apply Kd.V_drew)); exact (Kd.V_mono (Kd.V_far (p := ⟨gb165, 1, none⟩) (Kd.V_far (p := ⟨gb165, 0, none⟩) (Kd.V_mono HO163.out (fun k_ hk => (⟨hk, hk.2⟩ : _ /\ k_ ≠ gb165))) (fun _ hk => hk.2) (.int .i64 t160)) (fun _ hk => hk.2) (.slice Ao236 t161.length co236)) (fun _ h_ => h_.1))) (Kd.R_base ho239) hb); have n1_ := Aside0.mk (Kd.R_lower ho239 (below_size q_2)); have n2_ := Aside0.mk (blk_below (g := gb156) (o := .cells #[.int .i64 a0_0, .slice A0_1 l0_1.length c0_1] 47 (0, 0)) q_11 hb); have n3_ := Aside0.mk (blk_below (g := gb165) (o := .cells #[.int .i64 t160, .slice Ao236 t161.length co236] 47 (0, 0)) q_8 hb); have n4_ := Aside0.mk (below_step q_2 hb); clear HO163; clear BK156; clear BK165; clear HB; have HO163 := n0_; have HO182 := n1_; have BK156 := n2_; have BK165 := n3_; have HB := n4_; clear n0_ n1_ n2_ n3_ n4_; clear hb ho239; have hcz240_0 : w238.cell? ⟨gb156, 0, none⟩ = some (.int .i64 a0_0) := (blk_cell BK156.out 0).trans rfl; have hcz240_1 : w238.cell? ⟨gb156, 1, none⟩ = some (.slice A0_1 l0_1.length c0_1) := (blk_cell BK156.out 1).trans rfl; have hfz240_0 := blk_frozen BK156.out 0; have hfz240_1 := blk_frozen BK156.out 1) | ((with_reducible refine gate_callee (f := 31) rfl ?_); refine goesL_ (some 89) rfl rfl Try.func31 q_10 rfl #[.agg #[.int .i64 a0_0, .slice A0_1 l0_1.length c0_1]] rfl q_4 ?_; (with_reducible refine (batonlaw31_keys.calls kj4 a0_0 _ _ l0_1 t183 _ ?side1 ?side2 A127.out).mono ?_); (case side1 => repeat (first | exact (Kd.C_below HR0_1.out HB.out) | (with_reducible refine Kd.C_alloc ?_ _) | (with_reducible refine Kd.C_drewN ?_ _) | (with_reducible refine Kd.C_drew ?_))); (case side2 => exact HC0_1.out); rintro e w241 ⟨v184, rfl, ho0, hb⟩; refine ⟨_, rfl, ?_⟩; have n0_ := Aside0.mk (Kd.V_elder' q_6 (Kd.R_base ho0) hb); have n1_ := Aside0.mk (Kd.R_elder' q_14 (Kd.R_base ho0) hb); have n2_ := Aside0.mk (Kd.R_lower (Kd.R_new' ho0 (Kd.R_lt q_14)) (below_size q_2)); have n3_ := Aside0.mk (blk_below (g := gb156) (o := .cells #[.int .i64 a0_0, .slice A0_1 l0_1.length c0_1] 47 (0, 0)) q_3 hb); have n4_ := Aside0.mk (blk_below (g := gb165) (o := .cells #[.int .i64 t160, .slice Ao236 t161.length co236] 47 (0, 0)) q_5 hb); have n5_ := Aside0.mk (below_step q_2 hb); clear HO163; clear HO182; clear BK156; clear BK165; clear HB; have HO163 := n0_; have HO182 := n1_; have HO185 := n2_; have BK156 := n3_; have BK165 := n4_; have HB := n5_; clear n0_ n1_ n2_ n3_ n4_ n5_; (try clear hb); (try clear hb2); (try clear hk); (try clear hi); (try clear ho0); obtain ⟨Ao243, co243, eo243⟩ := Kd.R_slice HO185.out; subst eo243) | ((with_reducible refine gate_builtin (b := .append) (xs := #[.tmp 87, .tmp 89]) rfl ?_); (try (refine gate_guard (by rfl) ?_; dsimp only)); at_builtin; refine Kd.R_append_rows k140 (w0 := w) w.heap.size rfl (.tmp 87) (.tmp 89) 56 140 (.agg #[(.int .i64 0), (.int .u8 0)]) 16 rfl Try.underlying56 info140 rfl q_22 (by omega) v181 y180 t183 _ _ _ (fun k_ => some k_ ≠ (.slice Ao243 t183.length co243 : Value).ownBlock) (fun _ => False) rfl rfl ?aO ?aR (fun _ _ h => h) (fun _ h => h.elim) ?aF ?aB ?aS ?aL ?_; (case aR => repeat (first | exact (Kd.R_reads' HO185.out).2.2 | (with_reducible refine Kd.C_alloc ?_ _) | (with_reducible refine Kd.C_drewN ?_ _) | (with_reducible refine Kd.C_drew ?_))); (case aB => exact q_2); (case aF => exact (fun k_ hk => Kd.fresh' (Kd.R_lt q_7) k_ hk)); (case aO => exact q_19); (case aS => exact (below_size q_2)); (case aL => have := LMc128.out; omega); intro v187 w242 ho hb hg hat; rw [← Ny186.out] at ho; have n0_ := Aside0.mk (blk_grown (g := gb156) (o := .cells #[.int .i64 a0_0, .slice A0_1 l0_1.length c0_1] 47 (0, 0)) q_3 hg (Kd.R_ne HO182.out BK156.out q_22)); have n1_ := Aside0.mk (Kd.V_afterv (ok := (fun k_ => some k_ ≠ (.slice Ao243 t183.length co243 : Value).ownBlock /\ k_ ≠ gb156 /\ k_ ≠ gb165)) q_16 hg hat); have n2_ := Aside0.mk (blk_grown (g := gb165) (o := .cells #[.int .i64 t160, .slice Ao236 t161.length co236] 47 (0, 0)) q_5 hg (Kd.R_ne HO182.out BK165.out q_22)); have n3_ := Aside0.mk (Kd.R_after (ok := (fun _ => True)) q_7 hg hat); have n4_ := Aside0.mk (hb); have n5_ := Aside0.mk (ho); clear BK156; clear HO163; clear BK165; clear HO185; clear HB; clear HO182; have BK156 := n0_; have HO163 := n1_; have BK165 := n2_; have HO185 := n3_; have HB := n4_; have HO188 := n5_; clear n0_ n1_ n2_ n3_ n4_ n5_; clear ho hb hg hat) | ((with_reducible refine gate_callee (f := 32) rfl ?_); refine goesL_ (some 93) rfl rfl Try.func32 q_10 rfl #[.int .i64 (wrap64 (a0_0 + (l0_1.length : Int))), .slice A1 l1.length c1] rfl q_4 ?_; (with_reducible refine (batonref31_Keys.calls kj4 (wrap64 (a0_0 + (l0_1.length : Int))) _ _ l1 t189 _ ?side1 ?side2 A129.out).mono ?_); (case side1 => repeat (first | exact (Kd.C_below HR1.out HB.out) | (with_reducible refine Kd.C_alloc ?_ _) | (with_reducible refine Kd.C_drewN ?_ _) | (with_reducible refine Kd.C_drew ?_))); (case side2 => exact HC1.out); rintro e w244 ⟨v190, rfl, ho0, hb⟩; refine ⟨_, rfl, ?_⟩; have n0_ := Aside0.mk (Kd.V_elder' q_6 (Kd.R_base ho0) hb); have n1_ := Aside0.mk (Kd.R_elder' q_7 (Kd.R_base ho0) hb); have n2_ := Aside0.mk (Kd.R_elder' q_12 (Kd.R_base ho0) hb); have n3_ := Aside0.mk (Kd.R_lower (Kd.R_new' (Kd.R_new' ho0 (Kd.R_lt q_7)) (Kd.R_lt q_12)) (below_size q_2)); have n4_ := Aside0.mk (blk_below (g := gb156) (o := .cells #[.int .i64 a0_0, .slice A0_1 l0_1.length c0_1] 47 (0, 0)) q_3 hb); have n5_ := Aside0.mk (blk_below (g := gb165) (o := .cells #[.int .i64 t160, .slice Ao236 t161.length co236] 47 (0, 0)) q_5 hb); have n6_ := Aside0.mk (below_step q_2 hb); clear HO163; clear HO185; clear HO188; clear BK156; clear BK165; clear HB; have HO163 := n0_; have HO185 := n1_; have HO188 := n2_; have HO191 := n3_; have BK156 := n4_; have BK165 := n5_; have HB := n6_; clear n0_ n1_ n2_ n3_ n4_ n5_ n6_; (try clear hb); (try clear hb2); (try clear hk); (try clear hi); (try clear ho0); obtain ⟨Ao246, co246, eo246⟩ := Kd.R_slice HO191.out; subst eo246) | ((with_reducible refine gate_builtin (b := .append) (xs := #[.tmp 90, .tmp 93]) rfl ?_); (try (refine gate_guard (by rfl) ?_; dsimp only)); at_builtin; refine Kd.R_append_rows k140 (w0 := w) w.heap.size rfl (.tmp 90) (.tmp 93) 56 140 (.agg #[(.int .i64 0), (.int .u8 0)]) 16 rfl Try.underlying56 info140 rfl q_22 (by omega) v187 y186 t189 _ _ _ (fun k_ => some k_ ≠ (.slice Ao243 t183.length co243 : Value).ownBlock /\ some k_ ≠ (.slice Ao246 t189.length co246 : Value).ownBlock) (fun _ => False) rfl rfl ?aO ?aR (fun _ _ h => h) (fun _ h => h.elim) ?aF ?aB ?aS ?aL ?_; (case aR => repeat (first | exact (Kd.R_reads' HO191.out).2.2 | (with_reducible refine Kd.C_alloc ?_ _) | (with_reducible refine Kd.C_drewN ?_ _) | (with_reducible refine Kd.C_drew ?_))); (case aB => exact q_2); (case aF => exact (fun k_ hk => ⟨Kd.fresh' (Kd.R_lt q_7) k_ hk, Kd.fresh' (Kd.R_lt q_9) k_ hk⟩)); (case aO => exact q_12); (case aS => exact (below_size q_2)); (case aL => have := LMc130.out; omega); intro v193 w245 ho hb hg hat; rw [← Ny192.out] at ho; have n0_ := Aside0.mk (blk_grown (g := gb156) (o := .cells #[.int .i64 a0_0, .slice A0_1 l0_1.length c0_1] 47 (0, 0)) q_3 hg (Kd.R_ne HO188.out BK156.out q_22)); have n1_ := Aside0.mk (Kd.V_afterv (ok := (fun k_ => some k_ ≠ (.slice Ao243 t183.length co243 : Value).ownBlock /\ some k_ ≠ (.slice Ao246 t189.length co246 : Value).ownBlock /\ k_ ≠ gb156 /\ k_ ≠ gb165)) q_15 hg hat); have n2_ := Aside0.mk (blk_grown (g := gb165) (o := .cells #[.int .i64 t160, .slice Ao236 t161.length co236] 47 (0, 0)) q_5 hg (Kd.R_ne HO188.out BK165.out q_22)); have n3_ := Aside0.mk (Kd.R_after (ok := (fun k_ => some k_ ≠ (.slice Ao246 t189.length co246 : Value).ownBlock)) q_18 hg hat); have n4_ := Aside0.mk (Kd.R_after (ok := (fun k_ => some k_ ≠ (.slice Ao243 t183.length co243 : Value).ownBlock)) q_17 hg hat); have n5_ := Aside0.mk (hb); have n6_ := Aside0.mk (ho); clear BK156; clear HO163; clear BK165; clear HO185; clear HO191; clear HB; clear HO188; have BK156 := n0_; have HO163 := n1_; have BK165 := n2_; have HO185 := n3_; have HO191 := n4_; have HB := n5_; have HO194 := n6_; clear n0_ n1_ n2_ n3_ n4_ n5_ n6_; clear ho hb hg hat; have hcz247_0 : w245.cell? ⟨gb156, 0, none⟩ = some (.int .i64 a0_0) := (blk_cell BK156.out 0).trans rfl; have hcz247_1 : w245.cell? ⟨gb156, 1, none⟩ = some (.slice A0_1 l0_1.length c0_1) := (blk_cell BK156.out 1).trans rfl; have hfz247_0 := blk_frozen BK156.out 0; have hfz247_1 := blk_frozen BK156.out 1) | (go_at_call 33; (with_reducible refine (outbox_Next.calls a0_0 _ _ l0_1 t195 _ ?side1 ?side2 A132.out).mono ?_); (case side1 => repeat (first | exact (Kd.C_below HR0_1.out HB.out) | (with_reducible refine Kd.C_alloc ?_ _) | (with_reducible refine Kd.C_drewN ?_ _) | (with_reducible refine Kd.C_drew ?_))); (case side2 => exact HC0_1.out); rintro e w248 ⟨rfl, hb⟩; have n0_ := Aside0.mk (Kd.V_below q_6 hb); have n1_ := Aside0.mk (Kd.R_below q_7 hb); have n2_ := Aside0.mk (Kd.R_below q_9 hb); have n3_ := Aside0.mk (Kd.R_below q_13 hb); have n4_ := Aside0.mk (blk_below (g := gb156) (o := .cells #[.int .i64 a0_0, .slice A0_1 l0_1.length c0_1] 47 (0, 0)) q_3 hb); have n5_ := Aside0.mk (blk_below (g := gb165) (o := .cells #[.int .i64 t160, .slice Ao236 t161.length co236] 47 (0, 0)) q_5 hb); have n6_ := Aside0.mk (below_step q_2 hb); clear HO163; clear HO185; clear HO191; clear HO194; clear BK156; clear BK165; clear HB; have HO163 := n0_; have HO185 := n1_; have HO191 := n2_; have HO194 := n3_; have BK156 := n4_; have BK165 := n5_; have HB := n6_; clear n0_ n1_ n2_ n3_ n4_ n5_ n6_; (try clear hb); (try clear hb2); (try clear hk); (try clear hi); have hcz249_0 : w248.cell? ⟨gb165, 0, none⟩ = some (.int .i64 t160) := (blk_cell BK165.out 0).trans rfl; have hcz249_1 : w248.cell? ⟨gb165, 1, none⟩ = some (.slice Ao236 t161.length co236) := (blk_cell BK165.out 1).trans rfl; have hfz249_0 := blk_frozen BK165.out 0; have hfz249_1 := blk_frozen BK165.out 1) | (go_at_call 33; (with_reducible refine (outbox_Next.calls t160 _ _ t161 t196 _ ?side1 ?side2 A134.out).mono ?_); (case side1 => repeat (first | exact (Kd.V_reads' HO163.out).2.2 | (with_reducible refine Kd.C_alloc ?_ _) | (with_reducible refine Kd.C_drewN ?_ _) | (with_reducible refine Kd.C_drew ?_))); (case side2 => exact (Kd.V_reads' HO163.out).2.1); rintro e w250 ⟨rfl, hb⟩; have n0_ := Aside0.mk (Kd.V_below q_6 hb); have n1_ := Aside0.mk (Kd.R_below q_7 hb); have n2_ := Aside0.mk (Kd.R_below q_9 hb); have n3_ := Aside0.mk (Kd.R_below q_13 hb); have n4_ := Aside0.mk (blk_below (g := gb156) (o := .cells #[.int .i64 a0_0, .slice A0_1 l0_1.length c0_1] 47 (0, 0)) q_3 hb); have n5_ := Aside0.mk (blk_below (g := gb165) (o := .cells #[.int .i64 t160, .slice Ao236 t161.length co236] 47 (0, 0)) q_5 hb); have n6_ := Aside0.mk (below_step q_2 hb); clear HO163; clear HO185; clear HO191; clear HO194; clear BK156; clear BK165; clear HB; have HO163 := n0_; have HO185 := n1_; have HO191 := n2_; have HO194 := n3_; have BK156 := n4_; have BK165 := n5_; have HB := n6_; clear n0_ n1_ n2_ n3_ n4_ n5_ n6_; (try clear hb); (try clear hb2); (try clear hk); (try clear hi)))
              go_ret
              exact ⟨by first | rfl | (simp [errW_none, errW_some] <;> rfl) | (simp [*, errW_none, errW_some] <;> rfl), by repeat (first | (with_reducible first | exact HB.out | apply below_alloc | apply pw_below_drewN | apply below_drew1 | refine below_set ?_ GE156.out | refine below_set ?_ GE165.out) | exact HB.out)⟩
            ·rw [if_neg c133] at H
             have c133b0 : (t195 == (wrap64 (a0_0 + (l0_1.length : Int)))) = false := beq_eq_false_iff_ne.mpr c133
             have c133b1 : (t195 != (wrap64 (a0_0 + (l0_1.length : Int)))) = true := bne_iff_ne.mpr c133
             obtain rfl := Option.some.inj H
             have hcz251_0 : wc.cell? ⟨gb156, 0, none⟩ = some (.int .i64 a0_0) := (blk_cell BK156.out 0).trans rfl
             have hcz251_1 : wc.cell? ⟨gb156, 1, none⟩ = some (.slice A0_1 l0_1.length c0_1) := (blk_cell BK156.out 1).trans rfl
             have hfz251_0 := blk_frozen BK156.out 0
             have hfz251_1 := blk_frozen BK156.out 1
             go_wp2_with (first | ((with_reducible refine gate_callee (f := 28) rfl ?_); refine goesL_ (some 22) rfl rfl Try.func28 q_10 rfl #[.agg #[.int .i64 a0_0, .slice A0_1 l0_1.length c0_1]] rfl q_4 ?_; (with_reducible refine (batonlaw31_right.calls a0_0 _ _ l0_1 true _ ?side1 ?side2 A12.out).mono ?_); (case side1 => repeat (first | exact (Kd.C_below HR0_1.out HB.out) | (with_reducible refine Kd.C_alloc ?_ _) | (with_reducible refine Kd.C_drewN ?_ _) | (with_reducible refine Kd.C_drew ?_))); (case side2 => exact HC0_1.out); rintro e w252 ⟨rfl, hb⟩; refine ⟨_, rfl, ?_⟩; have n0_ := Aside0.mk (blk_below (g := gb156) (o := .cells #[.int .i64 a0_0, .slice A0_1 l0_1.length c0_1] 47 (0, 0)) q_3 hb); have n1_ := Aside0.mk (below_step q_1 hb); clear BK156; clear HB; have BK156 := n0_; have HB := n1_; clear n0_ n1_; (try clear hb); (try clear hb2); (try clear hk); (try clear hi); have hcz253_0 : w252.cell? ⟨gb156, 0, none⟩ = some (.int .i64 a0_0) := (blk_cell BK156.out 0).trans rfl; have hcz253_1 : w252.cell? ⟨gb156, 1, none⟩ = some (.slice A0_1 l0_1.length c0_1) := (blk_cell BK156.out 1).trans rfl; have hfz253_0 := blk_frozen BK156.out 0; have hfz253_1 := blk_frozen BK156.out 1) | ((with_reducible refine gate_callee (f := 29) rfl ?_); refine goesL_ (some 24) rfl rfl Try.func29 q_10 rfl #[.agg #[.int .i64 a0_0, .slice A0_1 l0_1.length c0_1]] rfl q_4 ?_; (with_reducible refine (outbox_Right.calls a0_0 _ _ l0_1 t159 _ ?side1 ?side2 A13.out).mono ?_); (case side1 => repeat (first | exact (Kd.C_below HR0_1.out HB.out) | (with_reducible refine Kd.C_alloc ?_ _) | (with_reducible refine Kd.C_drewN ?_ _) | (with_reducible refine Kd.C_drew ?_))); (case side2 => exact HC0_1.out); rintro e w254 ⟨rfl, hb⟩; refine ⟨_, rfl, ?_⟩; have n0_ := Aside0.mk (blk_below (g := gb156) (o := .cells #[.int .i64 a0_0, .slice A0_1 l0_1.length c0_1] 47 (0, 0)) q_3 hb); have n1_ := Aside0.mk (below_step q_1 hb); clear BK156; clear HB; have BK156 := n0_; have HB := n1_; clear n0_ n1_; (try clear hb); (try clear hb2); (try clear hk); (try clear hi); have hcz255_0 : w254.cell? ⟨gb156, 0, none⟩ = some (.int .i64 a0_0) := (blk_cell BK156.out 0).trans rfl; have hcz255_1 : w254.cell? ⟨gb156, 1, none⟩ = some (.slice A0_1 l0_1.length c0_1) := (blk_cell BK156.out 1).trans rfl; have hfz255_0 := blk_frozen BK156.out 0; have hfz255_1 := blk_frozen BK156.out 1) | ((with_reducible refine gate_callee (f := 27) rfl ?_); refine goesL_ (some 38) rfl rfl Try.func27 q_10 rfl #[.agg #[.int .i64 a0_0, .slice A0_1 l0_1.length c0_1], .slice A1 l1.length c1] rfl q_4 ?_; (with_reducible refine (outbox_Put.calls kj4 a0_0 (fun k_ => k_ < w.heap.size) _ _ l0_1 (fun k_ => k_ < w.heap.size) _ _ l1 t160 t161 t164 _ ?side1 ?side2 A20.out).mono ?_); (case side1 => exact Kd.V_mk HC0_1.out (Kd.F_below (Kd.C_F (Kd.heap_int .u8) HR0_1.out) q_1)); (case side2 => exact Kd.V_mk HC1.out (Kd.F_below (Kd.C_F (Kd.heap_int .u8) HR1.out) q_1)); rintro e w256 ⟨v162, rfl, ho0, hb⟩; refine ⟨_, rfl, ?_⟩; have n0_ := Aside0.mk (Kd.V_lower (Kd.V_mono (ok' := fun k_ => k_ ≠ gb156) ho0 (fun k_ hk_ => Or.elim hk_ (fun hs_ => Or.elim hs_ (fun hs_ => fun e_ => Nat.not_le.2 hs_ q_21) (fun hs_ => fun e_ => Nat.not_le.2 hs_ q_21)) (fun hn_ => (Kd.freshB (g := gb156) (o := .cells #[.int .i64 a0_0, .slice A0_1 l0_1.length c0_1] 47 (0, 0)) q_3 k_ hn_)))) (below_size q_1)); have n1_ := Aside0.mk (blk_below (g := gb156) (o := .cells #[.int .i64 a0_0, .slice A0_1 l0_1.length c0_1] 47 (0, 0)) q_3 hb); have n2_ := Aside0.mk (below_step q_1 hb); clear BK156; clear HB; have HO163 := n0_; have BK156 := n1_; have HB := n2_; clear n0_ n1_ n2_; (try clear hb); (try clear hb2); (try clear hk); (try clear hi); (try clear ho0)) | ((with_reducible refine gate_dst (N := 7) rfl ?_); (try (refine gate_guard (by rfl) ?_; dsimp only)); refine box_event ?hg (N := 7) ?hd (cs := #[.int .i64 0, .slice none 0 0]) (t := 47) ?hr ?_; (case hd => rfl); (case hg => rfl); (case hr => first | (go_simp; done) | (go_simp; rfl)); intro gb165 hg w257 hbox hb; have n0_ := Aside0.mk (Kd.V_below (Kd.V_elderB q_6 gb165 (Nat.le_of_eq hg.symm)) hb); have n1_ := Aside0.mk (blk_below (g := gb156) (o := .cells #[.int .i64 a0_0, .slice A0_1 l0_1.length c0_1] 47 (0, 0)) q_3 hb); have n2_ := Aside0.mk (below_step q_1 hb); have n3_ := Aside0.mk (hbox); have n4_ := Aside0.mk ((by rw [hg]; exact (below_size q_1) : w.heap.size <= gb165)); have n5_ := Aside0.mk ((by rw [hg]; exact (below_size q_1) : w.heap.size <= gb165)); have n6_ := Aside0.mk ((by rw [hg]; exact Nat.ne_of_lt (blk_lt (g := gb156) (o := .cells #[.int .i64 a0_0, .slice A0_1 l0_1.length c0_1] 47 (0, 0)) q_3) : gb156 ≠ gb165)); have n7_ := Aside0.mk ((by rw [hg]; exact Nat.ne_of_gt (blk_lt (g := gb156) (o := .cells #[.int .i64 a0_0, .slice A0_1 l0_1.length c0_1] 47 (0, 0)) q_3) : gb165 ≠ gb156)); clear HO163; clear BK156; clear HB; have HO163 := n0_; have BK156 := n1_; have HB := n2_; have BK165 := n3_; have GW165 := n4_; have GE165 := n5_; have NB156_165 := n6_; have NB165_156 := n7_; clear n0_ n1_ n2_ n3_ n4_ n5_ n6_ n7_; clear hb hbox hg; have hnb258 := NB165_156.out; have hnc258 := NB156_165.out; have hcz259_0 : w257.cell? ⟨gb165, 0, none⟩ = some (.int .i64 0) := (blk_cell BK165.out 0).trans rfl; have hcz259_1 : w257.cell? ⟨gb165, 1, none⟩ = some (.slice none 0 0) := (blk_cell BK165.out 1).trans rfl; have hfz259_0 := blk_frozen BK165.out 0; have hfz259_1 := blk_frozen BK165.out 1; obtain ⟨Ao260, co260, eo260⟩ := Kd.V_slice HO163.out; subst eo260; have hcz261_0 : w257.cell? ⟨gb156, 0, none⟩ = some (.int .i64 a0_0) := (blk_cell BK156.out 0).trans rfl; have hcz261_1 : w257.cell? ⟨gb156, 1, none⟩ = some (.slice A0_1 l0_1.length c0_1) := (blk_cell BK156.out 1).trans rfl; have hfz261_0 := blk_frozen BK156.out 0; have hfz261_1 := blk_frozen BK156.out 1) | ((with_reducible refine gate_dst (N := 87) rfl ?_); (try (refine gate_guard (by rfl) ?_; dsimp only)); refine Kd.R_lit k140 _ 140 ?hg (N := 87) ?hd (xs := ([] : List (S140))) (inner := []) (ok := fun _ => True) (okp := fun _ => True) ?hr ?hp (fun _ hk => hk) trivial (Below.refl _ _) (Nat.le_refl _) (by simp) ?_; (case hd => rfl); (case hg => rfl); (case hr => first | (go_simp; done) | (go_simp; rfl)); (case hp => exact (Reps.none _ _)); intro v181 w262 ho263 hb hg_ hnew_; clear hg_ hnew_; (first | rw [← Ny180.out] at ho263 | (simp only [Int.reduceToNat] at ho263; rw [← Ny180.out] at ho263)); have n0_ := Aside0.mk (Kd.V_elder' (by (with_reducible repeat (first | apply Kd.V_alloc | apply Kd.V_drewN | apply Kd.V_drew)); exact (Kd.V_mono (Kd.V_far (p := ⟨gb165, 1, none⟩) (Kd.V_far (p := ⟨gb165, 0, none⟩) (Kd.V_mono HO163.out (fun k_ hk => (⟨hk, hk.2⟩ : _ /\ k_ ≠ gb165))) (fun _ hk => hk.2) (.int .i64 t160)) (fun _ hk => hk.2) (.slice Ao260 t161.length co260)) (fun _ h_ => h_.1))) (Kd.R_base ho263) hb); have n1_ := Aside0.mk (Kd.R_lower ho263 (below_size q_2)); have n2_ := Aside0.mk (blk_below (g := gb156) (o := .cells #[.int .i64 a0_0, .slice A0_1 l0_1.length c0_1] 47 (0, 0)) q_11 hb); have n3_ := Aside0.mk (blk_below (g := gb165) (o := .cells #[.int .i64 t160, .slice Ao260 t161.length co260] 47 (0, 0)) q_8 hb); have n4_ := Aside0.mk (below_step q_2 hb); clear HO163; clear BK156; clear BK165; clear HB; have HO163 := n0_; have HO182 := n1_; have BK156 := n2_; have BK165 := n3_; have HB := n4_; clear n0_ n1_ n2_ n3_ n4_; clear hb ho263; have hcz264_0 : w262.cell? ⟨gb156, 0, none⟩ = some (.int .i64 a0_0) := (blk_cell BK156.out 0).trans rfl; have hcz264_1 : w262.cell? ⟨gb156, 1, none⟩ = some (.slice A0_1 l0_1.length c0_1) := (blk_cell BK156.out 1).trans rfl; have hfz264_0 := blk_frozen BK156.out 0; have hfz264_1 := blk_frozen BK156.out 1) | ((with_reducible refine gate_callee (f := 31) rfl ?_); refine goesL_ (some 89) rfl rfl Try.func31 q_10 rfl #[.agg #[.int .i64 a0_0, .slice A0_1 l0_1.length c0_1]] rfl q_4 ?_; (with_reducible refine (batonlaw31_keys.calls kj4 a0_0 _ _ l0_1 t183 _ ?side1 ?side2 A127.out).mono ?_); (case side1 => repeat (first | exact (Kd.C_below HR0_1.out HB.out) | (with_reducible refine Kd.C_alloc ?_ _) | (with_reducible refine Kd.C_drewN ?_ _) | (with_reducible refine Kd.C_drew ?_))); (case side2 => exact HC0_1.out); rintro e w265 ⟨v184, rfl, ho0, hb⟩; refine ⟨_, rfl, ?_⟩; have n0_ := Aside0.mk (Kd.V_elder' q_6 (Kd.R_base ho0) hb); have n1_ := Aside0.mk (Kd.R_elder' q_14 (Kd.R_base ho0) hb); have n2_ := Aside0.mk (Kd.R_lower (Kd.R_new' ho0 (Kd.R_lt q_14)) (below_size q_2)); have n3_ := Aside0.mk (blk_below (g := gb156) (o := .cells #[.int .i64 a0_0, .slice A0_1 l0_1.length c0_1] 47 (0, 0)) q_3 hb); have n4_ := Aside0.mk (blk_below (g := gb165) (o := .cells #[.int .i64 t160, .slice Ao260 t161.length co260] 47 (0, 0)) q_5 hb); have n5_ := Aside0.mk (below_step q_2 hb); clear HO163; clear HO182; clear BK156; clear BK165; clear HB; have HO163 := n0_; have HO182 := n1_; have HO185 := n2_; have BK156 := n3_; have BK165 := n4_; have HB := n5_; clear n0_ n1_ n2_ n3_ n4_ n5_; (try clear hb); (try clear hb2); (try clear hk); (try clear hi); (try clear ho0); obtain ⟨Ao267, co267, eo267⟩ := Kd.R_slice HO185.out; subst eo267) | ((with_reducible refine gate_builtin (b := .append) (xs := #[.tmp 87, .tmp 89]) rfl ?_); (try (refine gate_guard (by rfl) ?_; dsimp only)); at_builtin; refine Kd.R_append_rows k140 (w0 := w) w.heap.size rfl (.tmp 87) (.tmp 89) 56 140 (.agg #[(.int .i64 0), (.int .u8 0)]) 16 rfl Try.underlying56 info140 rfl q_22 (by omega) v181 y180 t183 _ _ _ (fun k_ => some k_ ≠ (.slice Ao267 t183.length co267 : Value).ownBlock) (fun _ => False) rfl rfl ?aO ?aR (fun _ _ h => h) (fun _ h => h.elim) ?aF ?aB ?aS ?aL ?_; (case aR => repeat (first | exact (Kd.R_reads' HO185.out).2.2 | (with_reducible refine Kd.C_alloc ?_ _) | (with_reducible refine Kd.C_drewN ?_ _) | (with_reducible refine Kd.C_drew ?_))); (case aB => exact q_2); (case aF => exact (fun k_ hk => Kd.fresh' (Kd.R_lt q_7) k_ hk)); (case aO => exact q_19); (case aS => exact (below_size q_2)); (case aL => have := LMc128.out; omega); intro v187 w266 ho hb hg hat; rw [← Ny186.out] at ho; have n0_ := Aside0.mk (blk_grown (g := gb156) (o := .cells #[.int .i64 a0_0, .slice A0_1 l0_1.length c0_1] 47 (0, 0)) q_3 hg (Kd.R_ne HO182.out BK156.out q_22)); have n1_ := Aside0.mk (Kd.V_afterv (ok := (fun k_ => some k_ ≠ (.slice Ao267 t183.length co267 : Value).ownBlock /\ k_ ≠ gb156 /\ k_ ≠ gb165)) q_16 hg hat); have n2_ := Aside0.mk (blk_grown (g := gb165) (o := .cells #[.int .i64 t160, .slice Ao260 t161.length co260] 47 (0, 0)) q_5 hg (Kd.R_ne HO182.out BK165.out q_22)); have n3_ := Aside0.mk (Kd.R_after (ok := (fun _ => True)) q_7 hg hat); have n4_ := Aside0.mk (hb); have n5_ := Aside0.mk (ho); clear BK156; clear HO163; clear BK165; clear HO185; clear HB; clear HO182; have BK156 := n0_; have HO163 := n1_; have BK165 := n2_; have HO185 := n3_; have HB := n4_; have HO188 := n5_; clear n0_ n1_ n2_ n3_ n4_ n5_; clear ho hb hg hat) | ((with_reducible refine gate_callee (f := 32) rfl ?_); refine goesL_ (some 93) rfl rfl Try.func32 q_10 rfl #[.int .i64 (wrap64 (a0_0 + (l0_1.length : Int))), .slice A1 l1.length c1] rfl q_4 ?_; (with_reducible refine (batonref31_Keys.calls kj4 (wrap64 (a0_0 + (l0_1.length : Int))) _ _ l1 t189 _ ?side1 ?side2 A129.out).mono ?_); (case side1 => repeat (first | exact (Kd.C_below HR1.out HB.out) | (with_reducible refine Kd.C_alloc ?_ _) | (with_reducible refine Kd.C_drewN ?_ _) | (with_reducible refine Kd.C_drew ?_))); (case side2 => exact HC1.out); rintro e w268 ⟨v190, rfl, ho0, hb⟩; refine ⟨_, rfl, ?_⟩; have n0_ := Aside0.mk (Kd.V_elder' q_6 (Kd.R_base ho0) hb); have n1_ := Aside0.mk (Kd.R_elder' q_7 (Kd.R_base ho0) hb); have n2_ := Aside0.mk (Kd.R_elder' q_12 (Kd.R_base ho0) hb); have n3_ := Aside0.mk (Kd.R_lower (Kd.R_new' (Kd.R_new' ho0 (Kd.R_lt q_7)) (Kd.R_lt q_12)) (below_size q_2)); have n4_ := Aside0.mk (blk_below (g := gb156) (o := .cells #[.int .i64 a0_0, .slice A0_1 l0_1.length c0_1] 47 (0, 0)) q_3 hb); have n5_ := Aside0.mk (blk_below (g := gb165) (o := .cells #[.int .i64 t160, .slice Ao260 t161.length co260] 47 (0, 0)) q_5 hb); have n6_ := Aside0.mk (below_step q_2 hb); clear HO163; clear HO185; clear HO188; clear BK156; clear BK165; clear HB; have HO163 := n0_; have HO185 := n1_; have HO188 := n2_; have HO191 := n3_; have BK156 := n4_; have BK165 := n5_; have HB := n6_; clear n0_ n1_ n2_ n3_ n4_ n5_ n6_; (try clear hb); (try clear hb2); (try clear hk); (try clear hi); (try clear ho0); obtain ⟨Ao270, co270, eo270⟩ := Kd.R_slice HO191.out; subst eo270) | ((with_reducible refine gate_builtin (b := .append) (xs := #[.tmp 90, .tmp 93]) rfl ?_); (try (refine gate_guard (by rfl) ?_; dsimp only)); at_builtin; refine Kd.R_append_rows k140 (w0 := w) w.heap.size rfl (.tmp 90) (.tmp 93) 56 140 (.agg #[(.int .i64 0), (.int .u8 0)]) 16 rfl Try.underlying56 info140 rfl q_22 (by omega) v187 y186 t189 _ _ _ (fun k_ => some k_ ≠ (.slice Ao267 t183.length co267 : Value).ownBlock /\ some k_ ≠ (.slice Ao270 t189.length co270 : Value).ownBlock) (fun _ => False) rfl rfl ?aO ?aR (fun _ _ h => h) (fun _ h => h.elim) ?aF ?aB ?aS ?aL ?_; (case aR => repeat (first | exact (Kd.R_reads' HO191.out).2.2 | (with_reducible refine Kd.C_alloc ?_ _) | (with_reducible refine Kd.C_drewN ?_ _) | (with_reducible refine Kd.C_drew ?_))); (case aB => exact q_2); (case aF => exact (fun k_ hk => ⟨Kd.fresh' (Kd.R_lt q_7) k_ hk, Kd.fresh' (Kd.R_lt q_9) k_ hk⟩)); (case aO => exact q_12); (case aS => exact (below_size q_2)); (case aL => have := LMc130.out; omega); intro v193 w269 ho hb hg hat; rw [← Ny192.out] at ho; have n0_ := Aside0.mk (blk_grown (g := gb156) (o := .cells #[.int .i64 a0_0, .slice A0_1 l0_1.length c0_1] 47 (0, 0)) q_3 hg (Kd.R_ne HO188.out BK156.out q_22)); have n1_ := Aside0.mk (Kd.V_afterv (ok := (fun k_ => some k_ ≠ (.slice Ao267 t183.length co267 : Value).ownBlock /\ some k_ ≠ (.slice Ao270 t189.length co270 : Value).ownBlock /\ k_ ≠ gb156 /\ k_ ≠ gb165)) q_15 hg hat); have n2_ := Aside0.mk (blk_grown (g := gb165) (o := .cells #[.int .i64 t160, .slice Ao260 t161.length co260] 47 (0, 0)) q_5 hg (Kd.R_ne HO188.out BK165.out q_22)); have n3_ := Aside0.mk (Kd.R_after (ok := (fun k_ => some k_ ≠ (.slice Ao270 t189.length co270 : Value).ownBlock)) q_18 hg hat); have n4_ := Aside0.mk (Kd.R_after (ok := (fun k_ => some k_ ≠ (.slice Ao267 t183.length co267 : Value).ownBlock)) q_17 hg hat); have n5_ := Aside0.mk (hb); have n6_ := Aside0.mk (ho); clear BK156; clear HO163; clear BK165; clear HO185; clear HO191; clear HB; clear HO188; have BK156 := n0_; have HO163 := n1_; have BK165 := n2_; have HO185 := n3_; have HO191 := n4_; have HB := n5_; have HO194 := n6_; clear n0_ n1_ n2_ n3_ n4_ n5_ n6_; clear ho hb hg hat; have hcz271_0 : w269.cell? ⟨gb156, 0, none⟩ = some (.int .i64 a0_0) := (blk_cell BK156.out 0).trans rfl; have hcz271_1 : w269.cell? ⟨gb156, 1, none⟩ = some (.slice A0_1 l0_1.length c0_1) := (blk_cell BK156.out 1).trans rfl; have hfz271_0 := blk_frozen BK156.out 0; have hfz271_1 := blk_frozen BK156.out 1) | (go_at_call 33; (with_reducible refine (outbox_Next.calls a0_0 _ _ l0_1 t195 _ ?side1 ?side2 A132.out).mono ?_); (case side1 => repeat (first | exact (Kd.C_below HR0_1.out HB.out) | (with_reducible refine Kd.C_alloc ?_ _) | (with_reducible refine Kd.C_drewN ?_ _) | (with_reducible refine Kd.C_drew ?_))); (case side2 => exact HC0_1.out); rintro e w272 ⟨rfl, hb⟩; have n0_ := Aside0.mk (Kd.V_below q_6 hb); have n1_ := Aside0.mk (Kd.R_below q_7 hb); have n2_ := Aside0.mk (Kd.R_below q_9 hb); have n3_ := Aside0.mk (Kd.R_below q_13 hb); have n4_ := Aside0.mk (blk_below (g := gb156) (o := .cells #[.int .i64 a0_0, .slice A0_1 l0_1.length c0_1] 47 (0, 0)) q_3 hb); have n5_ := Aside0.mk (blk_below (g := gb165) (o := .cells #[.int .i64 t160, .slice Ao260 t161.length co260] 47 (0, 0)) q_5 hb); have n6_ := Aside0.mk (below_step q_2 hb); clear HO163; clear HO185; clear HO191; clear HO194; clear BK156; clear BK165; clear HB; have HO163 := n0_; have HO185 := n1_; have HO191 := n2_; have HO194 := n3_; have BK156 := n4_; have BK165 := n5_; have HB := n6_; clear n0_ n1_ n2_ n3_ n4_ n5_ n6_; (try clear hb); (try clear hb2); (try clear hk); (try clear hi)))
             go_ret
             exact ⟨by first | rfl | (simp [errW_none, errW_some] <;> rfl) | (simp [*, errW_none, errW_some] <;> rfl), by repeat (first | (with_reducible first | exact HB.out | apply below_alloc | apply pw_below_drewN | apply below_drew1 | refine below_set ?_ GE156.out | refine below_set ?_ GE165.out) | exact HB.out)⟩
           ·rw [if_neg c131] at H
            have c131b0 : (t164 == 0) = false := beq_eq_false_iff_ne.mpr c131
            have c131b1 : (t164 != 0) = true := bne_iff_ne.mpr c131
            obtain rfl := Option.some.inj H
            have hcz273_0 : wc.cell? ⟨gb156, 0, none⟩ = some (.int .i64 a0_0) := (blk_cell BK156.out 0).trans rfl
            have hcz273_1 : wc.cell? ⟨gb156, 1, none⟩ = some (.slice A0_1 l0_1.length c0_1) := (blk_cell BK156.out 1).trans rfl
            have hfz273_0 := blk_frozen BK156.out 0
            have hfz273_1 := blk_frozen BK156.out 1
            go_wp2_with (first | ((with_reducible refine gate_callee (f := 28) rfl ?_); refine goesL_ (some 22) rfl rfl Try.func28 q_10 rfl #[.agg #[.int .i64 a0_0, .slice A0_1 l0_1.length c0_1]] rfl q_4 ?_; (with_reducible refine (batonlaw31_right.calls a0_0 _ _ l0_1 true _ ?side1 ?side2 A12.out).mono ?_); (case side1 => repeat (first | exact (Kd.C_below HR0_1.out HB.out) | (with_reducible refine Kd.C_alloc ?_ _) | (with_reducible refine Kd.C_drewN ?_ _) | (with_reducible refine Kd.C_drew ?_))); (case side2 => exact HC0_1.out); rintro e w274 ⟨rfl, hb⟩; refine ⟨_, rfl, ?_⟩; have n0_ := Aside0.mk (blk_below (g := gb156) (o := .cells #[.int .i64 a0_0, .slice A0_1 l0_1.length c0_1] 47 (0, 0)) q_3 hb); have n1_ := Aside0.mk (below_step q_1 hb); clear BK156; clear HB; have BK156 := n0_; have HB := n1_; clear n0_ n1_; (try clear hb); (try clear hb2); (try clear hk); (try clear hi); have hcz275_0 : w274.cell? ⟨gb156, 0, none⟩ = some (.int .i64 a0_0) := (blk_cell BK156.out 0).trans rfl; have hcz275_1 : w274.cell? ⟨gb156, 1, none⟩ = some (.slice A0_1 l0_1.length c0_1) := (blk_cell BK156.out 1).trans rfl; have hfz275_0 := blk_frozen BK156.out 0; have hfz275_1 := blk_frozen BK156.out 1) | ((with_reducible refine gate_callee (f := 29) rfl ?_); refine goesL_ (some 24) rfl rfl Try.func29 q_10 rfl #[.agg #[.int .i64 a0_0, .slice A0_1 l0_1.length c0_1]] rfl q_4 ?_; (with_reducible refine (outbox_Right.calls a0_0 _ _ l0_1 t159 _ ?side1 ?side2 A13.out).mono ?_); (case side1 => repeat (first | exact (Kd.C_below HR0_1.out HB.out) | (with_reducible refine Kd.C_alloc ?_ _) | (with_reducible refine Kd.C_drewN ?_ _) | (with_reducible refine Kd.C_drew ?_))); (case side2 => exact HC0_1.out); rintro e w276 ⟨rfl, hb⟩; refine ⟨_, rfl, ?_⟩; have n0_ := Aside0.mk (blk_below (g := gb156) (o := .cells #[.int .i64 a0_0, .slice A0_1 l0_1.length c0_1] 47 (0, 0)) q_3 hb); have n1_ := Aside0.mk (below_step q_1 hb); clear BK156; clear HB; have BK156 := n0_; have HB := n1_; clear n0_ n1_; (try clear hb); (try clear hb2); (try clear hk); (try clear hi); have hcz277_0 : w276.cell? ⟨gb156, 0, none⟩ = some (.int .i64 a0_0) := (blk_cell BK156.out 0).trans rfl; have hcz277_1 : w276.cell? ⟨gb156, 1, none⟩ = some (.slice A0_1 l0_1.length c0_1) := (blk_cell BK156.out 1).trans rfl; have hfz277_0 := blk_frozen BK156.out 0; have hfz277_1 := blk_frozen BK156.out 1) | ((with_reducible refine gate_callee (f := 27) rfl ?_); refine goesL_ (some 38) rfl rfl Try.func27 q_10 rfl #[.agg #[.int .i64 a0_0, .slice A0_1 l0_1.length c0_1], .slice A1 l1.length c1] rfl q_4 ?_; (with_reducible refine (outbox_Put.calls kj4 a0_0 (fun k_ => k_ < w.heap.size) _ _ l0_1 (fun k_ => k_ < w.heap.size) _ _ l1 t160 t161 t164 _ ?side1 ?side2 A20.out).mono ?_); (case side1 => exact Kd.V_mk HC0_1.out (Kd.F_below (Kd.C_F (Kd.heap_int .u8) HR0_1.out) q_1)); (case side2 => exact Kd.V_mk HC1.out (Kd.F_below (Kd.C_F (Kd.heap_int .u8) HR1.out) q_1)); rintro e w278 ⟨v162, rfl, ho0, hb⟩; refine ⟨_, rfl, ?_⟩; have n0_ := Aside0.mk (Kd.V_lower (Kd.V_mono (ok' := fun k_ => k_ ≠ gb156) ho0 (fun k_ hk_ => Or.elim hk_ (fun hs_ => Or.elim hs_ (fun hs_ => fun e_ => Nat.not_le.2 hs_ q_21) (fun hs_ => fun e_ => Nat.not_le.2 hs_ q_21)) (fun hn_ => (Kd.freshB (g := gb156) (o := .cells #[.int .i64 a0_0, .slice A0_1 l0_1.length c0_1] 47 (0, 0)) q_3 k_ hn_)))) (below_size q_1)); have n1_ := Aside0.mk (blk_below (g := gb156) (o := .cells #[.int .i64 a0_0, .slice A0_1 l0_1.length c0_1] 47 (0, 0)) q_3 hb); have n2_ := Aside0.mk (below_step q_1 hb); clear BK156; clear HB; have HO163 := n0_; have BK156 := n1_; have HB := n2_; clear n0_ n1_ n2_; (try clear hb); (try clear hb2); (try clear hk); (try clear hi); (try clear ho0)) | ((with_reducible refine gate_dst (N := 7) rfl ?_); (try (refine gate_guard (by rfl) ?_; dsimp only)); refine box_event ?hg (N := 7) ?hd (cs := #[.int .i64 0, .slice none 0 0]) (t := 47) ?hr ?_; (case hd => rfl); (case hg => rfl); (case hr => first | (go_simp; done) | (go_simp; rfl)); intro gb165 hg w279 hbox hb; have n0_ := Aside0.mk (Kd.V_below (Kd.V_elderB q_6 gb165 (Nat.le_of_eq hg.symm)) hb); have n1_ := Aside0.mk (blk_below (g := gb156) (o := .cells #[.int .i64 a0_0, .slice A0_1 l0_1.length c0_1] 47 (0, 0)) q_3 hb); have n2_ := Aside0.mk (below_step q_1 hb); have n3_ := Aside0.mk (hbox); have n4_ := Aside0.mk ((by rw [hg]; exact (below_size q_1) : w.heap.size <= gb165)); have n5_ := Aside0.mk ((by rw [hg]; exact (below_size q_1) : w.heap.size <= gb165)); have n6_ := Aside0.mk ((by rw [hg]; exact Nat.ne_of_lt (blk_lt (g := gb156) (o := .cells #[.int .i64 a0_0, .slice A0_1 l0_1.length c0_1] 47 (0, 0)) q_3) : gb156 ≠ gb165)); have n7_ := Aside0.mk ((by rw [hg]; exact Nat.ne_of_gt (blk_lt (g := gb156) (o := .cells #[.int .i64 a0_0, .slice A0_1 l0_1.length c0_1] 47 (0, 0)) q_3) : gb165 ≠ gb156)); clear HO163; clear BK156; clear HB; have HO163 := n0_; have BK156 := n1_; have HB := n2_; have BK165 := n3_; have GW165 := n4_; have GE165 := n5_; have NB156_165 := n6_; have NB165_156 := n7_; clear n0_ n1_ n2_ n3_ n4_ n5_ n6_ n7_; clear hb hbox hg; have hnb280 := NB165_156.out; have hnc280 := NB156_165.out; have hcz281_0 : w279.cell? ⟨gb165, 0, none⟩ = some (.int .i64 0) := (blk_cell BK165.out 0).trans rfl; have hcz281_1 : w279.cell? ⟨gb165, 1, none⟩ = some (.slice none 0 0) := (blk_cell BK165.out 1).trans rfl; have hfz281_0 := blk_frozen BK165.out 0; have hfz281_1 := blk_frozen BK165.out 1; obtain ⟨Ao282, co282, eo282⟩ := Kd.V_slice HO163.out; subst eo282; have hcz283_0 : w279.cell? ⟨gb156, 0, none⟩ = some (.int .i64 a0_0) := (blk_cell BK156.out 0).trans rfl; have hcz283_1 : w279.cell? ⟨gb156, 1, none⟩ = some (.slice A0_1 l0_1.length c0_1) := (blk_cell BK156.out 1).trans rfl; have hfz283_0 := blk_frozen BK156.out 0; have hfz283_1 := blk_frozen BK156.out 1) | ((with_reducible refine gate_dst (N := 87) rfl ?_); (try (refine gate_guard (by rfl) ?_; dsimp only)); refine Kd.R_lit k140 _ 140 ?hg (N := 87) ?hd (xs := ([] : List (S140))) (inner := []) (ok := fun _ => True) (okp := fun _ => True) ?hr ?hp (fun _ hk => hk) trivial (Below.refl _ _) (Nat.le_refl _) (by simp) ?_; (case hd => rfl); (case hg => rfl); (case hr => first | (go_simp; done) | (go_simp; rfl)); (case hp => exact (Reps.none _ _)); intro v181 w284 ho285 hb hg_ hnew_; clear hg_ hnew_; (first | rw [← Ny180.out] at ho285 | (simp only [Int.reduceToNat] at ho285; rw [← Ny180.out] at ho285)); have n0_ := Aside0.mk (Kd.V_elder' (by (with_reducible repeat (first | apply Kd.V_alloc | apply Kd.V_drewN | apply Kd.V_drew)); exact (Kd.V_mono (Kd.V_far (p := ⟨gb165, 1, none⟩) (Kd.V_far (p := ⟨gb165, 0, none⟩) (Kd.V_mono HO163.out (fun k_ hk => (⟨hk, hk.2⟩ : _ /\ k_ ≠ gb165))) (fun _ hk => hk.2) (.int .i64 t160)) (fun _ hk => hk.2) (.slice Ao282 t161.length co282)) (fun _ h_ => h_.1))) (Kd.R_base ho285) hb); have n1_ := Aside0.mk (Kd.R_lower ho285 (below_size q_2)); have n2_ := Aside0.mk (blk_below (g := gb156) (o := .cells #[.int .i64 a0_0, .slice A0_1 l0_1.length c0_1] 47 (0, 0)) q_11 hb); have n3_ := Aside0.mk (blk_below (g := gb165) (o := .cells #[.int .i64 t160, .slice Ao282 t161.length co282] 47 (0, 0)) q_8 hb); have n4_ := Aside0.mk (below_step q_2 hb); clear HO163; clear BK156; clear BK165; clear HB; have HO163 := n0_; have HO182 := n1_; have BK156 := n2_; have BK165 := n3_; have HB := n4_; clear n0_ n1_ n2_ n3_ n4_; clear hb ho285; have hcz286_0 : w284.cell? ⟨gb156, 0, none⟩ = some (.int .i64 a0_0) := (blk_cell BK156.out 0).trans rfl; have hcz286_1 : w284.cell? ⟨gb156, 1, none⟩ = some (.slice A0_1 l0_1.length c0_1) := (blk_cell BK156.out 1).trans rfl; have hfz286_0 := blk_frozen BK156.out 0; have hfz286_1 := blk_frozen BK156.out 1) | ((with_reducible refine gate_callee (f := 31) rfl ?_); refine goesL_ (some 89) rfl rfl Try.func31 q_10 rfl #[.agg #[.int .i64 a0_0, .slice A0_1 l0_1.length c0_1]] rfl q_4 ?_; (with_reducible refine (batonlaw31_keys.calls kj4 a0_0 _ _ l0_1 t183 _ ?side1 ?side2 A127.out).mono ?_); (case side1 => repeat (first | exact (Kd.C_below HR0_1.out HB.out) | (with_reducible refine Kd.C_alloc ?_ _) | (with_reducible refine Kd.C_drewN ?_ _) | (with_reducible refine Kd.C_drew ?_))); (case side2 => exact HC0_1.out); rintro e w287 ⟨v184, rfl, ho0, hb⟩; refine ⟨_, rfl, ?_⟩; have n0_ := Aside0.mk (Kd.V_elder' q_6 (Kd.R_base ho0) hb); have n1_ := Aside0.mk (Kd.R_elder' q_14 (Kd.R_base ho0) hb); have n2_ := Aside0.mk (Kd.R_lower (Kd.R_new' ho0 (Kd.R_lt q_14)) (below_size q_2)); have n3_ := Aside0.mk (blk_below (g := gb156) (o := .cells #[.int .i64 a0_0, .slice A0_1 l0_1.length c0_1] 47 (0, 0)) q_3 hb); have n4_ := Aside0.mk (blk_below (g := gb165) (o := .cells #[.int .i64 t160, .slice Ao282 t161.length co282] 47 (0, 0)) q_5 hb); have n5_ := Aside0.mk (below_step q_2 hb); clear HO163; clear HO182; clear BK156; clear BK165; clear HB; have HO163 := n0_; have HO182 := n1_; have HO185 := n2_; have BK156 := n3_; have BK165 := n4_; have HB := n5_; clear n0_ n1_ n2_ n3_ n4_ n5_; (try clear hb); (try clear hb2); (try clear hk); (try clear hi); (try clear ho0); obtain ⟨Ao289, co289, eo289⟩ := Kd.R_slice HO185.out; subst eo289) | ((with_reducible refine gate_builtin (b := .append) (xs := #[.tmp 87, .tmp 89]) rfl ?_); (try (refine gate_guard (by rfl) ?_; dsimp only)); at_builtin; refine Kd.R_append_rows k140 (w0 := w) w.heap.size rfl (.tmp 87) (.tmp 89) 56 140 (.agg #[(.int .i64 0), (.int .u8 0)]) 16 rfl Try.underlying56 info140 rfl q_22 (by omega) v181 y180 t183 _ _ _ (fun k_ => some k_ ≠ (.slice Ao289 t183.length co289 : Value).ownBlock) (fun _ => False) rfl rfl ?aO ?aR (fun _ _ h => h) (fun _ h => h.elim) ?aF ?aB ?aS ?aL ?_; (case aR => repeat (first | exact (Kd.R_reads' HO185.out).2.2 | (with_reducible refine Kd.C_alloc ?_ _) | (with_reducible refine Kd.C_drewN ?_ _) | (with_reducible refine Kd.C_drew ?_))); (case aB => exact q_2); (case aF => exact (fun k_ hk => Kd.fresh' (Kd.R_lt q_7) k_ hk)); (case aO => exact q_19); (case aS => exact (below_size q_2)); (case aL => have := LMc128.out; omega); intro v187 w288 ho hb hg hat; rw [← Ny186.out] at ho; have n0_ := Aside0.mk (blk_grown (g := gb156) (o := .cells #[.int .i64 a0_0, .slice A0_1 l0_1.length c0_1] 47 (0, 0)) q_3 hg (Kd.R_ne HO182.out BK156.out q_22)); have n1_ := Aside0.mk (Kd.V_afterv (ok := (fun k_ => some k_ ≠ (.slice Ao289 t183.length co289 : Value).ownBlock /\ k_ ≠ gb156 /\ k_ ≠ gb165)) q_16 hg hat); have n2_ := Aside0.mk (blk_grown (g := gb165) (o := .cells #[.int .i64 t160, .slice Ao282 t161.length co282] 47 (0, 0)) q_5 hg (Kd.R_ne HO182.out BK165.out q_22)); have n3_ := Aside0.mk (Kd.R_after (ok := (fun _ => True)) q_7 hg hat); have n4_ := Aside0.mk (hb); have n5_ := Aside0.mk (ho); clear BK156; clear HO163; clear BK165; clear HO185; clear HB; clear HO182; have BK156 := n0_; have HO163 := n1_; have BK165 := n2_; have HO185 := n3_; have HB := n4_; have HO188 := n5_; clear n0_ n1_ n2_ n3_ n4_ n5_; clear ho hb hg hat) | ((with_reducible refine gate_callee (f := 32) rfl ?_); refine goesL_ (some 93) rfl rfl Try.func32 q_10 rfl #[.int .i64 (wrap64 (a0_0 + (l0_1.length : Int))), .slice A1 l1.length c1] rfl q_4 ?_; (with_reducible refine (batonref31_Keys.calls kj4 (wrap64 (a0_0 + (l0_1.length : Int))) _ _ l1 t189 _ ?side1 ?side2 A129.out).mono ?_); (case side1 => repeat (first | exact (Kd.C_below HR1.out HB.out) | (with_reducible refine Kd.C_alloc ?_ _) | (with_reducible refine Kd.C_drewN ?_ _) | (with_reducible refine Kd.C_drew ?_))); (case side2 => exact HC1.out); rintro e w290 ⟨v190, rfl, ho0, hb⟩; refine ⟨_, rfl, ?_⟩; have n0_ := Aside0.mk (Kd.V_elder' q_6 (Kd.R_base ho0) hb); have n1_ := Aside0.mk (Kd.R_elder' q_7 (Kd.R_base ho0) hb); have n2_ := Aside0.mk (Kd.R_elder' q_12 (Kd.R_base ho0) hb); have n3_ := Aside0.mk (Kd.R_lower (Kd.R_new' (Kd.R_new' ho0 (Kd.R_lt q_7)) (Kd.R_lt q_12)) (below_size q_2)); have n4_ := Aside0.mk (blk_below (g := gb156) (o := .cells #[.int .i64 a0_0, .slice A0_1 l0_1.length c0_1] 47 (0, 0)) q_3 hb); have n5_ := Aside0.mk (blk_below (g := gb165) (o := .cells #[.int .i64 t160, .slice Ao282 t161.length co282] 47 (0, 0)) q_5 hb); have n6_ := Aside0.mk (below_step q_2 hb); clear HO163; clear HO185; clear HO188; clear BK156; clear BK165; clear HB; have HO163 := n0_; have HO185 := n1_; have HO188 := n2_; have HO191 := n3_; have BK156 := n4_; have BK165 := n5_; have HB := n6_; clear n0_ n1_ n2_ n3_ n4_ n5_ n6_; (try clear hb); (try clear hb2); (try clear hk); (try clear hi); (try clear ho0); obtain ⟨Ao292, co292, eo292⟩ := Kd.R_slice HO191.out; subst eo292) | ((with_reducible refine gate_builtin (b := .append) (xs := #[.tmp 90, .tmp 93]) rfl ?_); (try (refine gate_guard (by rfl) ?_; dsimp only)); at_builtin; refine Kd.R_append_rows k140 (w0 := w) w.heap.size rfl (.tmp 90) (.tmp 93) 56 140 (.agg #[(.int .i64 0), (.int .u8 0)]) 16 rfl Try.underlying56 info140 rfl q_22 (by omega) v187 y186 t189 _ _ _ (fun k_ => some k_ ≠ (.slice Ao289 t183.length co289 : Value).ownBlock /\ some k_ ≠ (.slice Ao292 t189.length co292 : Value).ownBlock) (fun _ => False) rfl rfl ?aO ?aR (fun _ _ h => h) (fun _ h => h.elim) ?aF ?aB ?aS ?aL ?_; (case aR => repeat (first | exact (Kd.R_reads' HO191.out).2.2 | (with_reducible refine Kd.C_alloc ?_ _) | (with_reducible refine Kd.C_drewN ?_ _) | (with_reducible refine Kd.C_drew ?_))); (case aB => exact q_2); (case aF => exact (fun k_ hk => ⟨Kd.fresh' (Kd.R_lt q_7) k_ hk, Kd.fresh' (Kd.R_lt q_9) k_ hk⟩)); (case aO => exact q_12); (case aS => exact (below_size q_2)); (case aL => have := LMc130.out; omega); intro v193 w291 ho hb hg hat; rw [← Ny192.out] at ho; have n0_ := Aside0.mk (blk_grown (g := gb156) (o := .cells #[.int .i64 a0_0, .slice A0_1 l0_1.length c0_1] 47 (0, 0)) q_3 hg (Kd.R_ne HO188.out BK156.out q_22)); have n1_ := Aside0.mk (Kd.V_afterv (ok := (fun k_ => some k_ ≠ (.slice Ao289 t183.length co289 : Value).ownBlock /\ some k_ ≠ (.slice Ao292 t189.length co292 : Value).ownBlock /\ k_ ≠ gb156 /\ k_ ≠ gb165)) q_15 hg hat); have n2_ := Aside0.mk (blk_grown (g := gb165) (o := .cells #[.int .i64 t160, .slice Ao282 t161.length co282] 47 (0, 0)) q_5 hg (Kd.R_ne HO188.out BK165.out q_22)); have n3_ := Aside0.mk (Kd.R_after (ok := (fun k_ => some k_ ≠ (.slice Ao292 t189.length co292 : Value).ownBlock)) q_18 hg hat); have n4_ := Aside0.mk (Kd.R_after (ok := (fun k_ => some k_ ≠ (.slice Ao289 t183.length co289 : Value).ownBlock)) q_17 hg hat); have n5_ := Aside0.mk (hb); have n6_ := Aside0.mk (ho); clear BK156; clear HO163; clear BK165; clear HO185; clear HO191; clear HB; clear HO188; have BK156 := n0_; have HO163 := n1_; have BK165 := n2_; have HO185 := n3_; have HO191 := n4_; have HB := n5_; have HO194 := n6_; clear n0_ n1_ n2_ n3_ n4_ n5_ n6_; clear ho hb hg hat))
            go_ret
            exact ⟨by first | rfl | (simp [errW_none, errW_some] <;> rfl) | (simp [*, errW_none, errW_some] <;> rfl), by repeat (first | (with_reducible first | exact HB.out | apply below_alloc | apply pw_below_drewN | apply below_drew1 | refine below_set ?_ GE156.out | refine below_set ?_ GE165.out) | exact HB.out)⟩
          ·rw [if_neg c130] at H
           exact absurd H (by simp)
         ·rw [if_neg c128] at H
          exact absurd H (by simp)
      ·replace c19 := Bool.eq_false_iff.mpr c19
       subst c19
       have H1 : (some true) = some r := by rw [if_neg (show ¬ (false = true) by decide)] at H; exact H
       clear H
       have H := H1
       clear H1
       obtain rfl := Option.some.inj H
       have hcz293_0 : wc.cell? ⟨gb156, 0, none⟩ = some (.int .i64 a0_0) := (blk_cell BK156.out 0).trans rfl
       have hcz293_1 : wc.cell? ⟨gb156, 1, none⟩ = some (.slice A0_1 l0_1.length c0_1) := (blk_cell BK156.out 1).trans rfl
       have hfz293_0 := blk_frozen BK156.out 0
       have hfz293_1 := blk_frozen BK156.out 1
       go_wp2_with (first | ((with_reducible refine gate_callee (f := 28) rfl ?_); refine goesL_ (some 22) rfl rfl Try.func28 q_10 rfl #[.agg #[.int .i64 a0_0, .slice A0_1 l0_1.length c0_1]] rfl q_4 ?_; (with_reducible refine (batonlaw31_right.calls a0_0 _ _ l0_1 false _ ?side1 ?side2 A12.out).mono ?_); (case side1 => repeat (first | exact (Kd.C_below HR0_1.out HB.out) | (with_reducible refine Kd.C_alloc ?_ _) | (with_reducible refine Kd.C_drewN ?_ _) | (with_reducible refine Kd.C_drew ?_))); (case side2 => exact HC0_1.out); rintro e w294 ⟨rfl, hb⟩; refine ⟨_, rfl, ?_⟩; have n0_ := Aside0.mk (blk_below (g := gb156) (o := .cells #[.int .i64 a0_0, .slice A0_1 l0_1.length c0_1] 47 (0, 0)) q_3 hb); have n1_ := Aside0.mk (below_step q_1 hb); clear BK156; clear HB; have BK156 := n0_; have HB := n1_; clear n0_ n1_; (try clear hb); (try clear hb2); (try clear hk); (try clear hi); have hcz295_0 : w294.cell? ⟨gb156, 0, none⟩ = some (.int .i64 a0_0) := (blk_cell BK156.out 0).trans rfl; have hcz295_1 : w294.cell? ⟨gb156, 1, none⟩ = some (.slice A0_1 l0_1.length c0_1) := (blk_cell BK156.out 1).trans rfl; have hfz295_0 := blk_frozen BK156.out 0; have hfz295_1 := blk_frozen BK156.out 1) | ((with_reducible refine gate_callee (f := 29) rfl ?_); refine goesL_ (some 24) rfl rfl Try.func29 q_10 rfl #[.agg #[.int .i64 a0_0, .slice A0_1 l0_1.length c0_1]] rfl q_4 ?_; (with_reducible refine (outbox_Right.calls a0_0 _ _ l0_1 t159 _ ?side1 ?side2 A13.out).mono ?_); (case side1 => repeat (first | exact (Kd.C_below HR0_1.out HB.out) | (with_reducible refine Kd.C_alloc ?_ _) | (with_reducible refine Kd.C_drewN ?_ _) | (with_reducible refine Kd.C_drew ?_))); (case side2 => exact HC0_1.out); rintro e w296 ⟨rfl, hb⟩; refine ⟨_, rfl, ?_⟩; have n0_ := Aside0.mk (blk_below (g := gb156) (o := .cells #[.int .i64 a0_0, .slice A0_1 l0_1.length c0_1] 47 (0, 0)) q_3 hb); have n1_ := Aside0.mk (below_step q_1 hb); clear BK156; clear HB; have BK156 := n0_; have HB := n1_; clear n0_ n1_; (try clear hb); (try clear hb2); (try clear hk); (try clear hi)))
       go_ret
       exact ⟨by first | rfl | (simp [errW_none, errW_some] <;> rfl) | (simp [*, errW_none, errW_some] <;> rfl), by repeat (first | (with_reducible first | exact HB.out | apply below_alloc | apply pw_below_drewN | apply below_drew1 | refine below_set ?_ GE156.out) | exact HB.out)⟩
 ·replace c4 := Bool.eq_false_iff.mpr c4
  subst c4
  have H1 : (some false) = some r := by rw [if_neg (show ¬ (false = true) by decide)] at H; exact H
  clear H
  have H := H1
  clear H1
  obtain rfl := Option.some.inj H
  go_enter Try.func6, Try.ntmps6
  go_wp2_with (first | ((with_reducible refine gate_dst (N := 2) rfl ?_); (try (refine gate_guard (by rfl) ?_; dsimp only)); refine box_event ?hg (N := 2) ?hd (cs := #[.int .i64 a0_0, .slice A0_1 l0_1.length c0_1]) (t := 47) ?hr ?_; (case hd => rfl); (case hg => rfl); (case hr => first | (go_simp; done) | (go_simp; rfl)); intro gb156 hg w297 hbox hb; have n0_ := Aside0.mk (below_step q_20 hb); have n1_ := Aside0.mk (hbox); have n2_ := Aside0.mk ((by rw [hg]; exact (below_size q_20) : w.heap.size <= gb156)); have n3_ := Aside0.mk ((by rw [hg]; exact (below_size q_20) : w.heap.size <= gb156)); clear HB; have HB := n0_; have BK156 := n1_; have GW156 := n2_; have GE156 := n3_; clear n0_ n1_ n2_ n3_; clear hb hbox hg) | ((with_reducible refine gate_callee (f := 25) rfl ?_); refine goesL_ (some 10) rfl rfl Try.func25 q_10 rfl #[] rfl q_4 ?_; (with_reducible refine (batonlaw31_awake.calls k  false _ A3.out).mono ?_); rintro e w298 ⟨rfl, hb⟩; refine ⟨_, rfl, ?_⟩; have n0_ := Aside0.mk (blk_below (g := gb156) (o := .cells #[.int .i64 a0_0, .slice A0_1 l0_1.length c0_1] 47 (0, 0)) q_3 hb); have n1_ := Aside0.mk (below_step q_1 hb); clear BK156; clear HB; have BK156 := n0_; have HB := n1_; clear n0_ n1_; (try clear hb); (try clear hb2); (try clear hk); (try clear hi)))
  go_ret
  exact ⟨by first | rfl | (simp [errW_none, errW_some] <;> rfl) | (simp [*, errW_none, errW_some] <;> rfl), by repeat (first | (with_reducible first | exact HB.out | apply below_alloc | apply pw_below_drewN | apply below_drew1 | refine below_set ?_ GE156.out) | exact HB.out)⟩

/-- THE ONE PURE STATEMENT of batonlaw31_OutboxPuts. -/
def WF47 (x : S47) : Prop := (Lit.int .i64 x.f0).wf = true /\ (x.f1.length <= maxLen /\ ∀ x_ ∈ x.f1, (Lit.int .u8 x_).wf = true)
def batonlaw31_OutboxPuts.Pure : Prop := ∀ (a0_0 : Int) (l0_1 : List Int) (l1 : List Int), (Lit.int .i64 a0_0).wf = true -> (l0_1.length <= maxLen /\ ∀ x_ ∈ l0_1, (Lit.int .u8 x_).wf = true) -> (l1.length <= maxLen /\ ∀ x_ ∈ l1, (Lit.int .u8 x_).wf = true) -> ∃ k, batonlaw31_OutboxPuts.f k a0_0 l0_1 l1 = some true

end Go.Proofs.Ytdbfclfglpbpmaa.PF31P
