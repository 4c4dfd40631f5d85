/- By a program of this session (wip/tool/pp.py): plain Lean functions of the Go functions that this family of laws uses, the walks that the Go code comes to their answers, and the row of the law. No condition beside those that the row itself gives. -/
import Derived.Test.YtkckojgjkmcokaaPF10x0
import Derived.Test.YtkckojgjkmcokaaPF10x3
namespace Go.Proofs.Ytkckojgjkmcokaa.PF10
open Go.RowKit Go.Proofs.YtkckojgjkmcokaaW.Hand Go.Proofs.YtkckojgjkmcokaaW.PrintWords Go.Proofs.YtkckojgjkmcokaaW.PrintLast Go.Proofs.YtkckojgjkmcokaaW.PrintMore
attribute [local go_sem] max2_int min2_int max_two min_two max_three min_three max_four min_four   -- for this text's walks alone
open List (setIfInBounds_toArray set_cons_zero set_cons_succ)
set_option linter.unusedVariables false
set_option linter.unusedSimpArgs false

/-! ### grid_Board_Put: function 72 -/
def grid_Board_Put.f (k : Nat) (a0_0 : Int) (a0_1 : Int) (l0_2 : List (S53)) (a1 : Int) (a2 : Int) (a3_0 : Int) (a3_1 : Int) (a3_2 : Int) (a3_3 : Int) : Option (Int × Int × Int × (List (S53))) := (grid_Board_there.f a0_0 a0_1 l0_2 a1 a2).bind fun bt133 => (if bt133.1 = true then ((cell_Right.f k a3_0 a3_1 a3_2 a3_3).bind fun t139 => (if t139 = true then (if 0 ≤ (wrap64 ((wrap64 (a1 * bt133.2.2.1)) + a2)) then (if (wrap64 ((wrap64 (a1 * bt133.2.2.1)) + a2)) < (bt133.2.2.2.length : Int) then (some (0, bt133.2.1, bt133.2.2.1, (bt133.2.2.2.set ((wrap64 ((wrap64 (a1 * bt133.2.2.1)) + a2)) : Int).toNat (⟨a3_0, (⟨a3_1, a3_2, a3_3⟩ : S51)⟩ : S53)))) else (none)) else (none)) else (some (1, bt133.2.1, bt133.2.2.1, bt133.2.2.2)))) else (some (1, bt133.2.1, bt133.2.2.1, bt133.2.2.2)))
theorem grid_Board_Put.mono : ∀ a0 a1 a2 a3 a4 a5 a6 a7 a8 k, LeO (grid_Board_Put.f k a0 a1 a2 a3 a4 a5 a6 a7 a8) (grid_Board_Put.f (k + 1) a0 a1 a2 a3 a4 a5 a6 a7 a8) := by
 intro a0 a1 a2 a3 a4 a5 a6 a7 a8 k
 unfold grid_Board_Put.f
 repeat' first
   | (with_reducible exact cell_Right.mono _ _ _ _ _)
   | (with_reducible exact LeO.refl _)
   | (with_reducible exact LeO.none _)
   | (with_reducible refine LeO.ite ?_ ?_)
   | (with_reducible refine LeO.bind ?_ (fun _ => ?_))
   | exact cell_Right.mono _ _ _ _ _
   | exact LeO.none _
   | refine LeO.ite ?_ ?_
   | refine LeO.bind ?_ (fun _ => ?_)
def grid_Board_Put.T3 : Bool × List (List Nat × List Nat) := (true, [([], []), ([0], [0]), ([1], [1]), ([2], [2]), ([], []), ([], []), ([5], [5]), ([6], [6]), ([7], [7]), ([4, 8], [4, 8]), ([], []), ([9, 10], [9, 10]), ([], []), ([3, 11, 0, 1, 2, 3, 4, 5, 6, 7, 8, 9, 10, 11, 12], [3, 11]), ([13, 12, 0, 1, 2, 3, 4, 5, 6, 7, 8, 9, 10, 11, 12], [12, 13])])
def grid_Board_Put.B3 : List Nat := [0, 1, 3, 7, 0, 0, 32, 96, 224, 496, 0, 2032, 0, 8191, 16383]
theorem grid_Board_Put.tab3 : rtab .any (opsOf Try.f72 3) = grid_Board_Put.T3 := by kernel_rfl
theorem grid_Board_Put.bits3 : waitsOk grid_Board_Put.T3.2 grid_Board_Put.B3 = true := by kernel_rfl
theorem A4_ {p : Prop} (h : p) : Aside0 p := ⟨h⟩
abbrev m4_0 : Array Bool := #[false, false, false, false, false, false, false, false, false, false, false, false, false, false, false]
abbrev m4_1 : Array Bool := #[true, false, false, false, false, false, false, false, false, false, false, false, false, false, false]
abbrev m4_2 : Array Bool := #[true, true, false, false, false, false, false, false, false, false, false, false, false, false, false]
abbrev m4_3 : Array Bool := #[true, true, true, false, false, false, false, false, false, false, false, false, false, false, false]
abbrev m4_4 : Array Bool := #[true, true, true, false, true, false, false, false, false, false, false, false, false, false, false]
abbrev m4_5 : Array Bool := #[true, true, true, false, true, true, false, false, false, false, false, false, false, false, false]
abbrev m4_6 : Array Bool := #[true, true, true, false, true, true, true, false, false, false, false, false, false, false, false]
abbrev m4_7 : Array Bool := #[true, true, true, false, true, true, true, true, false, false, false, false, false, false, false]
abbrev m4_8 : Array Bool := #[true, true, true, false, true, true, true, true, false, false, true, false, false, false, false]
abbrev m4_9 : Array Bool := #[true, true, true, true, true, true, true, true, false, false, true, false, false, false, false]
abbrev m4_10 : Array Bool := #[true, true, true, true, true, true, true, true, true, false, true, false, false, false, false]
abbrev m4_11 : Array Bool := #[true, true, true, true, true, true, true, true, true, true, true, false, false, false, false]
abbrev m4_12 : Array Bool := #[true, true, true, true, true, true, true, true, true, true, true, true, false, false, false]
abbrev m4_13 : Array Bool := #[true, true, true, true, true, true, true, true, true, true, true, true, true, false, false]
abbrev m4_14 : Array Bool := #[true, true, true, true, true, true, true, true, true, true, true, true, true, true, false]
abbrev m4_15 : Array Bool := #[true, true, true, true, true, true, true, true, true, true, true, true, true, true, true]
theorem q4_18 {p : Prop} (h : p := by (with_reducible repeat (first | refine blk_drewN ?_ _ | refine blk_drew ?_ | refine blk_alloc ?_ _)); exact BK0.out) : p := h
theorem q4_19 {p : Prop} (h : p := by repeat (first | (with_reducible first | exact HB.out | apply below_alloc | apply pw_below_drewN | apply below_drew1 | refine below_set ?_ GE0.out) | exact HB.out)) : p := h
theorem q4_20 {p : Prop} (h : p := by first | exact HK.out.1 | exact (show Kept w _ (fun k_ => (P0_2_ k_) ∨ k_ = g) from by repeat (first | (with_reducible first | exact HK.out | apply Kept.alloc | apply Kept.drewN | apply Kept.drew | refine Kept.setCell ?_ (.inl (.inr rfl)) _) | exact HK.out)).1) : p := h
theorem q4_21 {p : Prop} (h : p := by repeat (first | (with_reducible first | exact HK.out | apply Kept.alloc | apply Kept.drewN | apply Kept.drew | refine Kept.setCell ?_ (.inl (.inr rfl)) _) | exact HK.out)) : p := h
theorem q4_22 {p : Prop} (h : p := by (with_reducible repeat (first | apply Kd.R_alloc | apply Kd.R_drewN | apply Kd.R_drew)); exact HO0_2.out) : p := h
theorem q4_23 {p : Prop} (h : p := by repeat (first | (with_reducible first | exact HK.out | apply Kept.alloc | apply Kept.drewN | apply Kept.drew | refine Kept.setCell ?_ (.inl (.inr rfl)) _ | refine Kept.setCell ?_ (.inr GW132.out) _) | exact HK.out)) : p := h
theorem q4_24 {p : Prop} (h : p := by (with_reducible repeat (first | refine blk_drewN ?_ _ | refine blk_drew ?_ | refine blk_alloc ?_ _)); exact BK132.out) : p := h
theorem q4_25 {p : Prop} (h : p := by first | exact HK.out.1 | exact (show Kept w _ (fun k_ => (P0_2_ k_) ∨ k_ = g) from by repeat (first | (with_reducible first | exact HK.out | apply Kept.alloc | apply Kept.drewN | apply Kept.drew | refine Kept.setCell ?_ (.inl (.inr rfl)) _ | refine Kept.setCell ?_ (.inr GW132.out) _) | exact HK.out)).1) : p := h
theorem q4_26 {p : Prop} (h : p := by (try simp only [List.map_toArray, List.map_cons, List.map_nil]); first | done | rfl | (simp only [List.length_drop, List.length_take]; rfl)) : p := h
theorem q4_27 {p : Prop} (h : p := by first | (with_reducible assumption) | assumption) : p := h
theorem q4_28 {p : Prop} (h : p := by (with_reducible repeat (first | refine blk_drewN ?_ _ | refine blk_drew ?_ | refine blk_alloc ?_ _)); exact BK145.out) : p := h
theorem q4_29 {p : Prop} (h : p := by repeat (first | (with_reducible first | exact HK.out | apply Kept.alloc | apply Kept.drewN | apply Kept.drew | refine Kept.setCell ?_ (.inl (.inr rfl)) _ | refine Kept.setCell ?_ (.inr GW145.out) _) | exact HK.out)) : p := h
theorem q4_30 {p : Prop} (h : p := by kernel_rfl) : p := h
theorem q4_31 {p : Prop} (h : p := by first | exact HK.out.1 | exact (show Kept w _ (fun k_ => (P0_2_ k_) ∨ k_ = g) from by repeat (first | (with_reducible first | exact HK.out | apply Kept.alloc | apply Kept.drewN | apply Kept.drew | refine Kept.setCell ?_ (.inl (.inr rfl)) _ | refine Kept.setCell ?_ (.inr GW145.out) _) | exact HK.out)).1) : p := h
theorem q4_32 {p : Prop} (h : p := by have h_ := Kd.R_away HO_1002.out (fun _ hk => hk.2); intro e_; exact h_ (by rw [e_]; rfl)) : p := h
theorem q4_33 {p : Prop} (h : p := by have h_ := Kd.R_ne HO_1002.out BK0.out (by decide); intro e_; exact h_ (by rw [e_]; rfl)) : p := h
theorem q4_34 {p : Prop} (h : p := by have h_ := Kd.R_ne HO138.out BK0.out (by decide); intro e_; exact h_ (by rw [e_]; rfl)) : p := h
theorem q4_35 {p : Prop} (h : p := by repeat (first | (with_reducible first | exact HB.out | apply below_alloc | apply pw_below_drewN | apply below_drew1 | refine below_set ?_ GE0.out | refine below_set ?_ GE132.out) | exact HB.out)) : p := h
set_option maxHeartbeats 8000000 in
set_option maxRecDepth 100000 in
theorem grid_Board_Put.calls (k : Nat) (g : Nat) (a0_0 : Int) (a0_1 : Int) (P0_2_ : Nat → Prop) (u9000_ : Value) (l0_2 : List (S53)) (a1 : Int) (a2 : Int) (a3_0 : Int) (a3_1 : Int) (a3_2 : Int) (a3_3 : Int) (r1 : Int) (r2 : Int) (r3 : Int) (r4 : List (S53)) (w0 w : World) (hb : w.heap[g]? = some (.cells #[.int .i64 a0_0, .int .i64 a0_1, u9000_] 112 (0, 0))) (hg : w0.heap.size ≤ g) (hB : Below w0.heap.size w0 w) (ho0_2 : Kd.R k53 53 w w0.heap.size P0_2_ u9000_ l0_2) (h : grid_Board_Put.f k a0_0 a0_1 l0_2 a1 a2 a3_0 a3_1 a3_2 a3_3 = some (r1, r2, r3, r4)) :
  Calls Try.prog 72 #[.pointer (some ⟨g, 0, none⟩), .int .i64 a1, .int .i64 a2, .agg #[.int .i32 a3_0, .int .i64 a3_1, .int .i64 a3_2, .int .i64 a3_3]] w fun e w' => ∃ v3_ : Value, Aside0 (e = .returned (.int .i64 r1) ∧ Kd.R k53 53 w' w0.heap.size (fun k_ => (P0_2_ k_ ∨ w.heap.size ≤ k_)) v3_ r4 ∧ w'.heap[g]? = some (.cells #[.int .i64 r2, .int .i64 r3, v3_] 112 (0, 0)) ∧ Below w0.heap.size w0 w' ∧ Kept w w' (fun k_ => (P0_2_ k_) ∨ k_ = g)) := by
 have hu53 := Try.underlying53
 have HO0_2 := A4_ (show Kd.R k53 53 w w0.heap.size (fun k_ => (P0_2_ k_ ∨ w.heap.size ≤ k_)) u9000_ l0_2 from Kd.R_mono ho0_2 (fun k_ hk => (.inl hk)))
 have HK := A4_ (Kept.refl w (fun k_ => (P0_2_ k_) ∨ k_ = g))
 have BK0 := A4_ hb
 have GE0 := A4_ hg
 clear hb hg
 have HW0 := A4_ hB.size
 have HB := A4_ hB
 clear hB
 have H : ((grid_Board_there.f a0_0 a0_1 l0_2 a1 a2).bind fun bt133 => (if bt133.1 = true then ((cell_Right.f k a3_0 a3_1 a3_2 a3_3).bind fun t139 => (if t139 = true then (if 0 ≤ (wrap64 ((wrap64 (a1 * bt133.2.2.1)) + a2)) then (if (wrap64 ((wrap64 (a1 * bt133.2.2.1)) + a2)) < (bt133.2.2.2.length : Int) then (some (0, bt133.2.1, bt133.2.2.1, (bt133.2.2.2.set ((wrap64 ((wrap64 (a1 * bt133.2.2.1)) + a2)) : Int).toNat (⟨a3_0, (⟨a3_1, a3_2, a3_3⟩ : S51)⟩ : S53)))) else (none)) else (none)) else (some (1, bt133.2.1, bt133.2.2.1, bt133.2.2.2)))) else (some (1, bt133.2.1, bt133.2.2.1, bt133.2.2.2)))) = some (r1, r2, r3, r4) := h
 clear h
 replace H := Option.bind_eq_some_iff.mp H
 obtain ⟨⟨t133, t134, t135, t136⟩, A50, H⟩ := H
 replace H : (if t133 = true then ((cell_Right.f k a3_0 a3_1 a3_2 a3_3).bind fun t139 => (if t139 = true then (if 0 ≤ (wrap64 ((wrap64 (a1 * t135)) + a2)) then (if (wrap64 ((wrap64 (a1 * t135)) + a2)) < (t136.length : Int) then (some (0, t134, t135, (t136.set ((wrap64 ((wrap64 (a1 * t135)) + a2)) : Int).toNat (⟨a3_0, (⟨a3_1, a3_2, a3_3⟩ : S51)⟩ : S53)))) else (none)) else (none)) else (some (1, t134, t135, t136)))) else (some (1, t134, t135, t136))) = some (r1, r2, r3, r4) := H
 have A5 := A4_ A50
 clear A50
 by_cases c6 : t133 = true
 ·subst c6
  have H1 : ((cell_Right.f k a3_0 a3_1 a3_2 a3_3).bind fun t139 => (if t139 = true then (if 0 ≤ (wrap64 ((wrap64 (a1 * t135)) + a2)) then (if (wrap64 ((wrap64 (a1 * t135)) + a2)) < (t136.length : Int) then (some (0, t134, t135, (t136.set ((wrap64 ((wrap64 (a1 * t135)) + a2)) : Int).toNat (⟨a3_0, (⟨a3_1, a3_2, a3_3⟩ : S51)⟩ : S53)))) else (none)) else (none)) else (some (1, t134, t135, t136)))) = some (r1, r2, r3, r4) := by rw [if_pos rfl] at H; exact H
  clear H; have H := H1; clear H1
  replace H := Option.bind_eq_some_iff.mp H
  obtain ⟨t139, A70, H⟩ := H
  replace H : (if t139 = true then (if 0 ≤ (wrap64 ((wrap64 (a1 * t135)) + a2)) then (if (wrap64 ((wrap64 (a1 * t135)) + a2)) < (t136.length : Int) then (some (0, t134, t135, (t136.set ((wrap64 ((wrap64 (a1 * t135)) + a2)) : Int).toNat (⟨a3_0, (⟨a3_1, a3_2, a3_3⟩ : S51)⟩ : S53)))) else (none)) else (none)) else (some (1, t134, t135, t136))) = some (r1, r2, r3, r4) := H
  have A7 := A4_ A70
  clear A70
  by_cases c8 : t139 = true
  ·subst c8
   have H1 : (if 0 ≤ (wrap64 ((wrap64 (a1 * t135)) + a2)) then (if (wrap64 ((wrap64 (a1 * t135)) + a2)) < (t136.length : Int) then (some (0, t134, t135, (t136.set ((wrap64 ((wrap64 (a1 * t135)) + a2)) : Int).toNat (⟨a3_0, (⟨a3_1, a3_2, a3_3⟩ : S51)⟩ : S53)))) else (none)) else (none)) = some (r1, r2, r3, r4) := by rw [if_pos rfl] at H; exact H
   clear H; have H := H1; clear H1
   obtain ⟨ji9, hji9⟩ : ∃ j_ : Int, (wrap64 ((wrap64 (a1 * t135)) + a2)) = j_ := ⟨_, rfl⟩
   replace H : (if 0 ≤ (ji9) then (if (ji9) < (t136.length : Int) then (some (0, t134, t135, (t136.set ((ji9) : Int).toNat (⟨a3_0, (⟨a3_1, a3_2, a3_3⟩ : S51)⟩ : S53)))) else (none)) else (none)) = some (r1, r2, r3, r4) := by first | (rw [hji9] at H; exact H) | (simp only [hji9] at H ⊢; exact H)
   (try rw [hji9] at A5)
   (try rw [hji9] at A7)
   have hji9w : (IntKind.i64.wrap ((wrap64 (a1 * t135)) + a2)) = ji9 := (i64_w _).trans hji9
   by_cases c10 : 0 ≤ (ji9)
   ·rw [if_pos c10] at H
    have c10b0 : decide (0 ≤ (ji9)) = true := decide_eq_true c10
    clear c10
    by_cases c11 : (ji9) < (t136.length : Int)
    ·rw [if_pos c11] at H
     have c11b0 : decide ((ji9) < (t136.length : Int)) = true := decide_eq_true c11
     clear c11
     obtain ⟨y140, hy140⟩ : ∃ y_ : List (S53), y_ = (t136.set ((ji9) : Int).toNat (⟨a3_0, (⟨a3_1, a3_2, a3_3⟩ : S51)⟩ : S53)) := ⟨_, rfl⟩
     replace H : (some (0, t134, t135, y140)) = some (r1, r2, r3, r4) := by first | (rw [hy140]; with_reducible exact H) | (have H2_ := (Option.bind_some _ _).symm.trans H; rw [hy140]; with_reducible exact H2_) | (have H2_ := (Option.bind_some _ _).symm.trans H; with_reducible exact H2_) | with_reducible exact H | (rw [hy140]; exact H) | exact H
     have Ny140 := A4_ hy140
     clear hy140
     simp only [Option.some.injEq, Prod.mk.injEq] at H
     obtain ⟨rfl, rfl, rfl, rfl⟩ := H
     go_enter Try.func72, Try.ntmps72
     try go_wp2_with (first | ((with_reducible refine gate_dst (N := 7) rfl ?_); refine box_event ?hg (N := 7) ?hd (cs := #[.int .i32 a3_0, .int .i64 a3_1, .int .i64 a3_2, .int .i64 a3_3]) (t := 53) ?hr ?_; (case hd => rfl); (case hg => rfl); (case hr => first | (go_simp; done) | (go_simp; rfl)); intro gb132 hg w13 hbox hb; have n0_ := A4_ (Kd.R_below (Kd.R_elderB q4_22 gb132 (Nat.le_of_eq hg.symm)) hb); have n1_ := A4_ (blk_below (g := g) (o := .cells #[.int .i64 a0_0, .int .i64 a0_1, u9000_] 112 (0, 0)) q4_18 hb); have n2_ := A4_ (Kept.below (S := (fun k_ => (P0_2_ k_) ∨ k_ = g)) q4_21 hb); have n3_ := A4_ (below_step q4_19 hb); have n4_ := A4_ (hbox); have n5_ := A4_ ((by rw [hg]; exact q4_20 : w.heap.size ≤ gb132)); have n6_ := A4_ ((by rw [hg]; exact (below_size q4_19) : w0.heap.size ≤ gb132)); have n7_ := A4_ ((by rw [hg]; exact Nat.ne_of_lt (blk_lt (g := g) (o := .cells #[.int .i64 a0_0, .int .i64 a0_1, u9000_] 112 (0, 0)) q4_18) : g ≠ gb132)); have n8_ := A4_ ((by rw [hg]; exact Nat.ne_of_gt (blk_lt (g := g) (o := .cells #[.int .i64 a0_0, .int .i64 a0_1, u9000_] 112 (0, 0)) q4_18) : gb132 ≠ g)); clear HO0_2 BK0 HK HB; have HO0_2 := n0_; have BK0 := n1_; have HK := n2_; have HB := n3_; have BK132 := n4_; have GW132 := n5_; have GE132 := n6_; have NB0_132 := n7_; have NB132_0 := n8_; clear n0_ n1_ n2_ n3_ n4_ n5_ n6_ n7_ n8_; clear hb hbox hg; obtain ⟨Ao14, co14, eo14⟩ := Kd.R_slice HO0_2.out; subst eo14) | ((with_reducible refine gate_callee (f := 76) rfl ?_); refine goesL_ (some 12) rfl rfl Try.func76 q4_30 rfl #[.pointer (some ⟨g, 0, none⟩), .int .i64 a1, .int .i64 a2] rfl q4_26 ?_; (with_reducible refine (grid_Board_there.calls g a0_0 a0_1 (fun k_ => some k_ = (.slice Ao14 l0_2.length co14 : Value).ownBlock) (.slice Ao14 l0_2.length co14) l0_2 a1 a2 true t134 t135 t136 w0 _ ?side2 ?side3 ?side1 ?side4 A5.out).mono ?_); (case side1 => repeat (first | (with_reducible first | exact HB.out | apply below_alloc | apply pw_below_drewN | apply below_drew1 | refine below_set ?_ GE0.out | refine below_set ?_ GE132.out) | exact HB.out)); (case side2 => (with_reducible repeat (first | refine blk_drewN ?_ _ | refine blk_drew ?_ | refine blk_alloc ?_ _)); exact BK0.out); (case side3 => exact GE0.out); (case side4 => exact Kd.R_tight rfl HO0_2.out); rintro e w15 ⟨v137, rfl, ho0, hbx, hb, hkp⟩; refine ⟨_, rfl, ?_⟩; have n0_ := A4_ (hbx); have n1_ := A4_ (blk_kept q4_24 hkp (fun hs_ => Or.elim hs_ (fun hs_ => (fun e_ => (Kd.R_away HO0_2.out (fun _ hk => hk.2)) e_) hs_) (fun e_ => NB132_0.out e_))); have n2_ := A4_ (Kd.R_mono (ok' := fun k_ => (P0_2_ k_ ∨ w.heap.size ≤ k_) ∧ k_ ≠ gb132) ho0 (fun k_ hk_ => ⟨Or.elim hk_ (fun hs_ => (HO0_2.out.1 k_ (hs_).symm).1) (fun hn_ => (.inr (Nat.le_trans q4_25 hn_))), Or.elim hk_ (fun hs_ => fun e_ => (Kd.R_away HO0_2.out (fun _ hk => hk.2)) (by rw [← e_]; exact hs_)) (fun hn_ => (Kd.freshB (g := gb132) (o := .cells #[.int .i32 a3_0, .int .i64 a3_1, .int .i64 a3_2, .int .i64 a3_3] 53 (0, 0)) q4_24 k_ hn_))⟩)); have n3_ := A4_ (Kept.then_ (S := (fun k_ => (P0_2_ k_) ∨ k_ = g)) q4_23 hkp (fun k_ hs_ => Or.elim hs_ (fun hs_ => (fun e_ => Or.imp_left Or.inl ((HO0_2.out.1 k_ e_.symm).1)) hs_) (fun e_ => .inl (.inr e_)))); have n4_ := A4_ (hb); clear BK0 BK132 HK HB HO0_2; have BK0 := n0_; have BK132 := n1_; have HO138 := n2_; have HK := n3_; have HB := n4_; clear n0_ n1_ n2_ n3_ n4_; (try clear hbx); (try clear hbn); (try clear hgn); (try clear hb); (try clear hkp); (try clear ho0); have hnb16 := NB132_0.out; have hnc16 := NB0_132.out; have hcz17_0 : w15.cell? ⟨gb132, 0, none⟩ = some (.int .i32 a3_0) := (blk_cell BK132.out 0).trans rfl; have hcz17_1 : w15.cell? ⟨gb132, 1, none⟩ = some (.int .i64 a3_1) := (blk_cell BK132.out 1).trans rfl; have hcz17_2 : w15.cell? ⟨gb132, 2, none⟩ = some (.int .i64 a3_2) := (blk_cell BK132.out 2).trans rfl; have hcz17_3 : w15.cell? ⟨gb132, 3, none⟩ = some (.int .i64 a3_3) := (blk_cell BK132.out 3).trans rfl; have hfz17_0 := blk_frozen BK132.out 0; have hfz17_1 := blk_frozen BK132.out 1; have hfz17_2 := blk_frozen BK132.out 2; have hfz17_3 := blk_frozen BK132.out 3) | (go_at_call 35; (with_reducible refine (cell_Right.calls k a3_0 a3_1 a3_2 a3_3 true _ A7.out).mono ?_); rintro e w18 ⟨rfl, hb⟩; have n0_ := A4_ (Kd.R_below (by (with_reducible repeat (first | apply Kd.R_alloc | apply Kd.R_drewN | apply Kd.R_drew)); exact HO138.out) hb); have n1_ := A4_ (blk_below (g := g) (o := .cells #[.int .i64 t134, .int .i64 t135, v137] 112 (0, 0)) q4_18 hb); have n2_ := A4_ (blk_below (g := gb132) (o := .cells #[.int .i32 a3_0, .int .i64 a3_1, .int .i64 a3_2, .int .i64 a3_3] 53 (0, 0)) q4_24 hb); have n3_ := A4_ (Kept.below (S := (fun k_ => (P0_2_ k_) ∨ k_ = g)) q4_23 hb); have n4_ := A4_ (below_step q4_35 hb); clear HO138 BK0 BK132 HK HB; have HO138 := n0_; have BK0 := n1_; have BK132 := n2_; have HK := n3_; have HB := n4_; clear n0_ n1_ n2_ n3_ n4_; (try clear hb); (try clear hb2); (try clear hk); (try clear hi)))
     have n0_ := A4_ (Kd.R_drew HO138.out)
     have n1_ := A4_ (blk_drew BK0.out)
     have n2_ := A4_ (blk_drew BK132.out)
     have n3_ := A4_ (Kept.drew HK.out)
     have n4_ := A4_ (below_drew1 HB.out)
     clear HO138; clear BK0; clear BK132; clear HK; clear HB; have HO138 := n0_; have BK0 := n1_; have BK132 := n2_; have HK := n3_; have HB := n4_; clear n0_ n1_ n2_ n3_ n4_
     have p12 : 0 ≤ ((ji9) : Int) := of_decide_eq_true q4_27
     have q12 : ((ji9) : Int) < ((t136.length : Int) : Int) := of_decide_eq_true q4_27
     obtain ⟨go12, co12, eo12, gb12, gl12, cl12, HG12⟩ := Kd.R_form HO138.out (by omega)
     (first | cases eo12 | (injection eo12 with ea_ en_ ec_; (first | subst ea_ | (injection ea_ with ea_; subst ea_)); subst ec_; clear en_))
     have GB12 := A4_ gb12
     have GG12 := A4_ HG12
     clear gb12 gl12 HG12
     have HMgo12 := A4_ (show (P0_2_ go12 ∨ w.heap.size ≤ go12) from (HO138.out.1 _ rfl).1)
     obtain ⟨ce12, hcl12, hM12, hcc12, hfr12⟩ := Kd.R_elem HO138.out z53 ((ji9) : Int) p12 q12
     obtain rfl := k53_openM hM12
     have hx12_0 : World.cell? _ ⟨go12, ((ji9) : Int).toNat * 4, none⟩ = some (.int .i32 ((rd_T53 t136 (ji9)).f0)) := hcc12 0 _ rfl
     have hx12_1 : World.cell? _ ⟨go12, ((ji9) : Int).toNat * 4 + 1, none⟩ = some (.int .i64 ((rd_T53 t136 (ji9)).f1.f0)) := hcc12 1 _ rfl
     have hx12_2 : World.cell? _ ⟨go12, ((ji9) : Int).toNat * 4 + 2, none⟩ = some (.int .i64 ((rd_T53 t136 (ji9)).f1.f1)) := hcc12 2 _ rfl
     have hx12_3 : World.cell? _ ⟨go12, ((ji9) : Int).toNat * 4 + 3, none⟩ = some (.int .i64 ((rd_T53 t136 (ji9)).f1.f2)) := hcc12 3 _ rfl
     have hf12_0 : World.frozen? _ ⟨go12, ((ji9) : Int).toNat * 4, none⟩ = false := hfr12 0
     have hf12_1 : World.frozen? _ ⟨go12, ((ji9) : Int).toNat * 4 + 1, none⟩ = false := hfr12 1
     have hf12_2 : World.frozen? _ ⟨go12, ((ji9) : Int).toNat * 4 + 2, none⟩ = false := hfr12 2
     have hf12_3 : World.frozen? _ ⟨go12, ((ji9) : Int).toNat * 4 + 3, none⟩ = false := hfr12 3
     clear hcl12 hcc12 hfr12 hM12
     replace p12 := eq_true p12
     replace q12 := eq_true q12
     obtain ⟨ce20, hcl20, hM20, hcc20, hfr20⟩ := Kd.R_elem HO138.out z53 ((ji9) : Int) (of_decide_eq_true q4_27) (by have h_ : ((ji9) : Int) < ((t136.length : Int) : Int) := of_decide_eq_true q4_27; first | exact h_ | (have e_ := (Kd.R_reads' HO138.out).1; omega) | simpa using h_)
     obtain rfl := k53_openM hM20
     have HP20 := (Kd.R_seg HO138.out ((ji9) : Int) (of_decide_eq_true q4_27) (by have h_ : ((ji9) : Int) < ((t136.length : Int) : Int) := of_decide_eq_true q4_27; first | exact h_ | (have e_ := (Kd.R_reads' HO138.out).1; omega) | simpa using h_) (seg := [.int .i32 a3_0, .int .i64 a3_1, .int .i64 a3_2, .int .i64 a3_3]) (j := 0) hcl20 hcc20 (show 4 ≤ 4 from by decide) (x' := (⟨a3_0, (⟨a3_1, a3_2, a3_3⟩ : S51)⟩ : S53)) (k53_mkM _ _ _ (⟨a3_0, (⟨a3_1, a3_2, a3_3⟩ : S51)⟩ : S53) ) (fun _ hk => hk)).1
     rw [← Ny140.out] at HP20
     have HQ20 := A4_ HP20
     clear hcl20 hcc20 hfr20 hM20 HP20
     refine start_ (n := 15) (S := fun w' => w'.cell? ⟨g, 0, none⟩ = some (.int .i64 t134) ∧ w'.cell? ⟨g, 1, none⟩ = some (.int .i64 t135) ∧ w'.cell? ⟨g, 2, none⟩ = some (.slice (some ⟨go12, 0, none⟩) t136.length co12) ∧ w'.cell? ⟨gb132, 0, none⟩ = some (.int .i32 a3_0) ∧ w'.cell? ⟨gb132, 1, none⟩ = some (.int .i64 a3_1) ∧ w'.cell? ⟨gb132, 2, none⟩ = some (.int .i64 a3_2) ∧ w'.cell? ⟨gb132, 3, none⟩ = some (.int .i64 a3_3)) (ds := [14]) m4_0 q4_30 rfl rfl ⟨(blk_cell BK0.out 0).trans rfl, (blk_cell BK0.out 1).trans rfl, (blk_cell BK0.out 2).trans rfl, (blk_cell BK132.out 0).trans rfl, (blk_cell BK132.out 1).trans rfl, (blk_cell BK132.out 2).trans rfl, (blk_cell BK132.out 3).trans rfl⟩ (fun hHeld => ?_); refine with_tabW grid_Board_Put.tab3 grid_Board_Put.bits3 (fun HT_ HW_ => ?_)
     generalize w18.drew = w19 at HO138 BK0 BK132 HK HB GG12 HQ20 hf12_0 hf12_1 hf12_2 hf12_3 hx12_0 hx12_1 hx12_2 hx12_3 hHeld ⊢
     refine pure_ (i := 0) (N := some 19) (v := ?_) (a' := ?_) m4_1 rfl rfl (any_of HT_.out q4_30) (fun _ _ _ h => h) (Or.inl ⟨by rfl, ?_⟩) ?_ ?_
     rotate_left; · intro w'; go_simp; with_reducible rfl
     rotate_left; · simp only [Act.put, setIfInBounds_toArray, set_cons_zero, set_cons_succ, i64_w, i32_w]; rfl
     refine pure_ (i := 1) (N := some 20) (v := ?_) (a' := ?_) m4_2 rfl rfl (any_of HT_.out q4_30) (fun _ _ _ h => h) (Or.inl ⟨by rfl, ?_⟩) ?_ ?_
     rotate_left; · intro w'; go_simp; with_reducible rfl
     rotate_left; · simp only [Act.put, setIfInBounds_toArray, set_cons_zero, set_cons_succ, i64_w, i32_w]; rfl
     refine pure_ (i := 2) (N := some 21) (v := ?_) (a' := ?_) m4_3 rfl rfl (any_of HT_.out q4_30) (fun _ _ _ h => h) (Or.inl ⟨by rfl, ?_⟩) ?_ ?_
     rotate_left; · intro w'; go_simp; with_reducible rfl
     rotate_left; · simp only [Act.put, setIfInBounds_toArray, set_cons_zero, set_cons_succ, i64_w, i32_w]; rfl
     refine pure_ (i := 4) (N := some 23) (v := ?_) (a' := ?_) m4_4 rfl rfl (any_of HT_.out q4_30) (fun _ _ _ h => h) (Or.inl ⟨by rfl, ?_⟩) ?_ ?_
     rotate_left; · intro w'; go_simp; with_reducible rfl
     rotate_left; · simp only [Act.put, setIfInBounds_toArray, set_cons_zero, set_cons_succ, i64_w, i32_w]; rfl
     refine pure_ (i := 5) (N := some 24) (v := ?_) (a' := ?_) m4_5 rfl rfl (any_of HT_.out q4_30) (fun _ _ _ h => h) (Or.inl ⟨by rfl, ?_⟩) ?_ ?_
     rotate_left; · intro w'; go_simp; with_reducible rfl
     rotate_left; · simp only [Act.put, setIfInBounds_toArray, set_cons_zero, set_cons_succ, i64_w, i32_w]; rfl
     refine pure_ (i := 6) (N := some 25) (v := ?_) (a' := ?_) m4_6 rfl rfl (any_of HT_.out q4_30) (fun _ _ _ h => h) (Or.inl ⟨by rfl, ?_⟩) ?_ ?_
     rotate_left; · intro w'; go_simp; with_reducible rfl
     rotate_left; · simp only [Act.put, setIfInBounds_toArray, set_cons_zero, set_cons_succ, i64_w, i32_w]; rfl
     refine pure_ (i := 7) (N := some 26) (v := ?_) (a' := ?_) m4_7 rfl rfl (any_of HT_.out q4_30) (fun _ _ _ h => h) (Or.inl ⟨by rfl, ?_⟩) ?_ ?_
     rotate_left; · intro w'; go_simp; with_reducible rfl
     rotate_left; · simp only [Act.put, setIfInBounds_toArray, set_cons_zero, set_cons_succ, i64_w, i32_w]; rfl
     refine pure_ (i := 10) (N := some 29) (v := ?_) (a' := ?_) m4_8 rfl rfl (any_of HT_.out q4_30) (fun _ _ _ h => h) (Or.inl ⟨by rfl, ?_⟩) ?_ ?_
     rotate_left; · intro w'; go_simp; with_reducible rfl
     rotate_left; · simp only [Act.put, setIfInBounds_toArray, set_cons_zero, set_cons_succ, i64_w, i32_w]; rfl
     refine take_ (i := 3) (N := some 22) (v := ?_) (a' := ?_) m4_9 rfl rfl (take_ofW HT_.out HW_.out q4_30) (fun _ _ _ h => h) (Or.inl ⟨by rfl, ?_⟩) hHeld ?_ ?_
     rotate_left; · rintro w' ⟨s0, s1, s2, s3, s4, s5, s6⟩; go_simp; with_reducible rfl
     rotate_left; · simp only [Act.put, setIfInBounds_toArray, set_cons_zero, set_cons_succ, i64_w, i32_w]; rfl
     refine take_ (i := 8) (N := some 27) (v := ?_) (a' := ?_) m4_10 rfl rfl (take_ofW HT_.out HW_.out q4_30) (fun _ _ _ h => h) (Or.inl ⟨by rfl, ?_⟩) hHeld ?_ ?_
     rotate_left; · rintro w' ⟨s0, s1, s2, s3, s4, s5, s6⟩; go_simp; with_reducible rfl
     rotate_left; · simp only [Act.put, setIfInBounds_toArray, set_cons_zero, set_cons_succ, i64_w, i32_w]; rfl
     refine pure_ (i := 9) (N := some 28) (v := ?_) (a' := ?_) m4_11 rfl rfl (any_of HT_.out q4_30) (fun _ _ _ h => h) (Or.inl ⟨by rfl, ?_⟩) ?_ ?_
     rotate_left; · intro w'; go_simp; with_reducible rfl
     rotate_left; · simp only [Act.put, setIfInBounds_toArray, set_cons_zero, set_cons_succ, i64_w, i32_w]; rfl
     refine pure_ (i := 11) (N := some 30) (v := ?_) (a' := ?_) m4_12 rfl rfl (any_of HT_.out q4_30) (fun _ _ _ h => h) (Or.inl ⟨by rfl, ?_⟩) ?_ ?_
     rotate_left; · intro w'; go_simp; with_reducible rfl
     rotate_left; · simp only [Act.put, setIfInBounds_toArray, set_cons_zero, set_cons_succ, i64_w, i32_w]; rfl
     refine take_ (i := 12) (N := some 31) (v := ?_) (a' := ?_) m4_13 rfl rfl (take_ofW HT_.out HW_.out q4_30) (fun _ _ _ h => h) (Or.inl ⟨by rfl, ?_⟩) hHeld ?_ ?_
     rotate_left; · rintro w' ⟨s0, s1, s2, s3, s4, s5, s6⟩; go_simp; with_reducible rfl
     rotate_left; · simp only [Act.put, setIfInBounds_toArray, set_cons_zero, set_cons_succ, i64_w, i32_w]; rfl
     refine pure_ (i := 13) (N := some 32) (v := ?_) (a' := ?_) m4_14 rfl rfl (any_of HT_.out q4_30) (fun _ _ _ h => h) (Or.inl ⟨by rfl, ?_⟩) ?_ ?_
     rotate_left; · intro w'; go_simp; with_reducible rfl
     rotate_left; · simp only [Act.put, setIfInBounds_toArray, set_cons_zero, set_cons_succ, i64_w, i32_w]; rfl
     refine last_ (i := 14) (N := none) m4_15 rfl rfl (one_of HT_.out q4_30) (by decide) (fun K hK => ?_)
     refine skip_ (w1 := ?_) (by rfl) rfl ?_ ?_
     rotate_left; · go_simp; rfl
     refine hK.out _ _ ?_
     clear hK K
     refine done_ (done_of HT_.out q4_30) ?_
     try go_wp2
     go_ret
     exact ⟨(.slice (some ⟨go12, 0, none⟩) t136.length co12), by first | rfl | (simp [errW_none, errW_some, ptrW_true, ptrW_false] <;> rfl) | (simp only [← hji9]; first | rfl | (simp [errW_none, errW_some, ptrW_true, ptrW_false] <;> rfl)) | (simp [*, errW_none, errW_some, ptrW_true, ptrW_false] <;> rfl), by (with_reducible repeat (first | apply Kd.R_alloc | apply Kd.R_drewN | apply Kd.R_drew)); exact Kd.R_mono HQ20.out (fun _ hk => hk.1), (by (with_reducible repeat (first | refine blk_drewN ?_ _ | refine blk_drew ?_ | refine blk_alloc ?_ _)); refine blk_far ?_ q4_34 _; (with_reducible repeat (first | refine blk_drewN ?_ _ | refine blk_drew ?_ | refine blk_alloc ?_ _)); refine blk_far ?_ q4_34 _; (with_reducible repeat (first | refine blk_drewN ?_ _ | refine blk_drew ?_ | refine blk_alloc ?_ _)); refine blk_far ?_ q4_34 _; (with_reducible repeat (first | refine blk_drewN ?_ _ | refine blk_drew ?_ | refine blk_alloc ?_ _)); refine blk_far ?_ q4_34 _; (with_reducible repeat (first | refine blk_drewN ?_ _ | refine blk_drew ?_ | refine blk_alloc ?_ _)); exact BK0.out), by repeat (first | (with_reducible first | exact HB.out | apply below_alloc | apply pw_below_drewN | apply below_drew1 | refine below_set ?_ GB12.out | refine below_set ?_ GB12.out | refine below_set ?_ GB12.out | refine below_set ?_ GB12.out | refine below_set ?_ GE0.out | refine below_set ?_ GE132.out) | exact HB.out), by repeat (first | (with_reducible first | exact HK.out | apply Kept.alloc | apply Kept.drewN | apply Kept.drew | refine Kept.setCell ?_ (Or.imp_left Or.inl HMgo12.out) _ | refine Kept.setCell ?_ (Or.imp_left Or.inl HMgo12.out) _ | refine Kept.setCell ?_ (Or.imp_left Or.inl HMgo12.out) _ | refine Kept.setCell ?_ (Or.imp_left Or.inl HMgo12.out) _ | refine Kept.setCell ?_ (.inl (.inr rfl)) _ | refine Kept.setCell ?_ (.inr GW132.out) _) | exact HK.out)⟩
    ·rw [if_neg c11] at H
     exact absurd H (by simp)
   ·rw [if_neg c10] at H
    exact absurd H (by simp)
  ·replace c8 := Bool.eq_false_iff.mpr c8
   subst c8
   have H1 : (some (1, t134, t135, t136)) = some (r1, r2, r3, r4) := by rw [if_neg (show ¬ (false = true) by decide)] at H; exact H
   clear H; have H := H1; clear H1
   simp only [Option.some.injEq, Prod.mk.injEq] at H
   obtain ⟨rfl, rfl, rfl, rfl⟩ := H
   go_enter Try.func72, Try.ntmps72
   go_wp2_with (first | ((with_reducible refine gate_dst (N := 7) rfl ?_); refine box_event ?hg (N := 7) ?hd (cs := #[.int .i32 a3_0, .int .i64 a3_1, .int .i64 a3_2, .int .i64 a3_3]) (t := 53) ?hr ?_; (case hd => rfl); (case hg => rfl); (case hr => first | (go_simp; done) | (go_simp; rfl)); intro gb132 hg w21 hbox hb; have n0_ := A4_ (Kd.R_below (Kd.R_elderB q4_22 gb132 (Nat.le_of_eq hg.symm)) hb); have n1_ := A4_ (blk_below (g := g) (o := .cells #[.int .i64 a0_0, .int .i64 a0_1, u9000_] 112 (0, 0)) q4_18 hb); have n2_ := A4_ (Kept.below (S := (fun k_ => (P0_2_ k_) ∨ k_ = g)) q4_21 hb); have n3_ := A4_ (below_step q4_19 hb); have n4_ := A4_ (hbox); have n5_ := A4_ ((by rw [hg]; exact q4_20 : w.heap.size ≤ gb132)); have n6_ := A4_ ((by rw [hg]; exact (below_size q4_19) : w0.heap.size ≤ gb132)); have n7_ := A4_ ((by rw [hg]; exact Nat.ne_of_lt (blk_lt (g := g) (o := .cells #[.int .i64 a0_0, .int .i64 a0_1, u9000_] 112 (0, 0)) q4_18) : g ≠ gb132)); have n8_ := A4_ ((by rw [hg]; exact Nat.ne_of_gt (blk_lt (g := g) (o := .cells #[.int .i64 a0_0, .int .i64 a0_1, u9000_] 112 (0, 0)) q4_18) : gb132 ≠ g)); clear HO0_2 BK0 HK HB; have HO0_2 := n0_; have BK0 := n1_; have HK := n2_; have HB := n3_; have BK132 := n4_; have GW132 := n5_; have GE132 := n6_; have NB0_132 := n7_; have NB132_0 := n8_; clear n0_ n1_ n2_ n3_ n4_ n5_ n6_ n7_ n8_; clear hb hbox hg; obtain ⟨Ao22, co22, eo22⟩ := Kd.R_slice HO0_2.out; subst eo22) | ((with_reducible refine gate_callee (f := 76) rfl ?_); refine goesL_ (some 12) rfl rfl Try.func76 q4_30 rfl #[.pointer (some ⟨g, 0, none⟩), .int .i64 a1, .int .i64 a2] rfl q4_26 ?_; (with_reducible refine (grid_Board_there.calls g a0_0 a0_1 (fun k_ => some k_ = (.slice Ao22 l0_2.length co22 : Value).ownBlock) (.slice Ao22 l0_2.length co22) l0_2 a1 a2 true t134 t135 t136 w0 _ ?side2 ?side3 ?side1 ?side4 A5.out).mono ?_); (case side1 => repeat (first | (with_reducible first | exact HB.out | apply below_alloc | apply pw_below_drewN | apply below_drew1 | refine below_set ?_ GE0.out | refine below_set ?_ GE132.out) | exact HB.out)); (case side2 => (with_reducible repeat (first | refine blk_drewN ?_ _ | refine blk_drew ?_ | refine blk_alloc ?_ _)); exact BK0.out); (case side3 => exact GE0.out); (case side4 => exact Kd.R_tight rfl HO0_2.out); rintro e w23 ⟨v137, rfl, ho0, hbx, hb, hkp⟩; refine ⟨_, rfl, ?_⟩; have n0_ := A4_ (hbx); have n1_ := A4_ (blk_kept q4_24 hkp (fun hs_ => Or.elim hs_ (fun hs_ => (fun e_ => (Kd.R_away HO0_2.out (fun _ hk => hk.2)) e_) hs_) (fun e_ => NB132_0.out e_))); have n2_ := A4_ (Kd.R_mono (ok' := fun k_ => (P0_2_ k_ ∨ w.heap.size ≤ k_) ∧ k_ ≠ gb132) ho0 (fun k_ hk_ => ⟨Or.elim hk_ (fun hs_ => (HO0_2.out.1 k_ (hs_).symm).1) (fun hn_ => (.inr (Nat.le_trans q4_25 hn_))), Or.elim hk_ (fun hs_ => fun e_ => (Kd.R_away HO0_2.out (fun _ hk => hk.2)) (by rw [← e_]; exact hs_)) (fun hn_ => (Kd.freshB (g := gb132) (o := .cells #[.int .i32 a3_0, .int .i64 a3_1, .int .i64 a3_2, .int .i64 a3_3] 53 (0, 0)) q4_24 k_ hn_))⟩)); have n3_ := A4_ (Kept.then_ (S := (fun k_ => (P0_2_ k_) ∨ k_ = g)) q4_23 hkp (fun k_ hs_ => Or.elim hs_ (fun hs_ => (fun e_ => Or.imp_left Or.inl ((HO0_2.out.1 k_ e_.symm).1)) hs_) (fun e_ => .inl (.inr e_)))); have n4_ := A4_ (hb); clear BK0 BK132 HK HB HO0_2; have BK0 := n0_; have BK132 := n1_; have HO138 := n2_; have HK := n3_; have HB := n4_; clear n0_ n1_ n2_ n3_ n4_; (try clear hbx); (try clear hbn); (try clear hgn); (try clear hb); (try clear hkp); (try clear ho0); have hnb24 := NB132_0.out; have hnc24 := NB0_132.out; have hcz25_0 : w23.cell? ⟨gb132, 0, none⟩ = some (.int .i32 a3_0) := (blk_cell BK132.out 0).trans rfl; have hcz25_1 : w23.cell? ⟨gb132, 1, none⟩ = some (.int .i64 a3_1) := (blk_cell BK132.out 1).trans rfl; have hcz25_2 : w23.cell? ⟨gb132, 2, none⟩ = some (.int .i64 a3_2) := (blk_cell BK132.out 2).trans rfl; have hcz25_3 : w23.cell? ⟨gb132, 3, none⟩ = some (.int .i64 a3_3) := (blk_cell BK132.out 3).trans rfl; have hfz25_0 := blk_frozen BK132.out 0; have hfz25_1 := blk_frozen BK132.out 1; have hfz25_2 := blk_frozen BK132.out 2; have hfz25_3 := blk_frozen BK132.out 3) | (go_at_call 35; (with_reducible refine (cell_Right.calls k a3_0 a3_1 a3_2 a3_3 false _ A7.out).mono ?_); rintro e w26 ⟨rfl, hb⟩; have n0_ := A4_ (Kd.R_below (by (with_reducible repeat (first | apply Kd.R_alloc | apply Kd.R_drewN | apply Kd.R_drew)); exact HO138.out) hb); have n1_ := A4_ (blk_below (g := g) (o := .cells #[.int .i64 t134, .int .i64 t135, v137] 112 (0, 0)) q4_18 hb); have n2_ := A4_ (blk_below (g := gb132) (o := .cells #[.int .i32 a3_0, .int .i64 a3_1, .int .i64 a3_2, .int .i64 a3_3] 53 (0, 0)) q4_24 hb); have n3_ := A4_ (Kept.below (S := (fun k_ => (P0_2_ k_) ∨ k_ = g)) q4_23 hb); have n4_ := A4_ (below_step q4_35 hb); clear HO138 BK0 BK132 HK HB; have HO138 := n0_; have BK0 := n1_; have BK132 := n2_; have HK := n3_; have HB := n4_; clear n0_ n1_ n2_ n3_ n4_; (try clear hb); (try clear hb2); (try clear hk); (try clear hi)))
   go_ret
   exact ⟨(v137), by first | rfl | (simp [errW_none, errW_some, ptrW_true, ptrW_false] <;> rfl) | (simp [*, errW_none, errW_some, ptrW_true, ptrW_false] <;> rfl), by (with_reducible repeat (first | apply Kd.R_alloc | apply Kd.R_drewN | apply Kd.R_drew)); exact Kd.R_mono HO138.out (fun _ hk => hk.1), q4_18, by repeat (first | (with_reducible first | exact HB.out | apply below_alloc | apply pw_below_drewN | apply below_drew1 | refine below_set ?_ GE0.out | refine below_set ?_ GE132.out) | exact HB.out), by repeat (first | (with_reducible first | exact HK.out | apply Kept.alloc | apply Kept.drewN | apply Kept.drew | refine Kept.setCell ?_ (.inl (.inr rfl)) _ | refine Kept.setCell ?_ (.inr GW132.out) _) | exact HK.out)⟩
 ·replace c6 := Bool.eq_false_iff.mpr c6
  subst c6
  have H1 : (some (1, t134, t135, t136)) = some (r1, r2, r3, r4) := by rw [if_neg (show ¬ (false = true) by decide)] at H; exact H
  clear H; have H := H1; clear H1
  simp only [Option.some.injEq, Prod.mk.injEq] at H
  obtain ⟨rfl, rfl, rfl, rfl⟩ := H
  go_enter Try.func72, Try.ntmps72
  go_wp2_with (first | ((with_reducible refine gate_dst (N := 7) rfl ?_); refine box_event ?hg (N := 7) ?hd (cs := #[.int .i32 a3_0, .int .i64 a3_1, .int .i64 a3_2, .int .i64 a3_3]) (t := 53) ?hr ?_; (case hd => rfl); (case hg => rfl); (case hr => first | (go_simp; done) | (go_simp; rfl)); intro gb132 hg w27 hbox hb; have n0_ := A4_ (Kd.R_below (Kd.R_elderB q4_22 gb132 (Nat.le_of_eq hg.symm)) hb); have n1_ := A4_ (blk_below (g := g) (o := .cells #[.int .i64 a0_0, .int .i64 a0_1, u9000_] 112 (0, 0)) q4_18 hb); have n2_ := A4_ (Kept.below (S := (fun k_ => (P0_2_ k_) ∨ k_ = g)) q4_21 hb); have n3_ := A4_ (below_step q4_19 hb); have n4_ := A4_ (hbox); have n5_ := A4_ ((by rw [hg]; exact q4_20 : w.heap.size ≤ gb132)); have n6_ := A4_ ((by rw [hg]; exact (below_size q4_19) : w0.heap.size ≤ gb132)); have n7_ := A4_ ((by rw [hg]; exact Nat.ne_of_lt (blk_lt (g := g) (o := .cells #[.int .i64 a0_0, .int .i64 a0_1, u9000_] 112 (0, 0)) q4_18) : g ≠ gb132)); have n8_ := A4_ ((by rw [hg]; exact Nat.ne_of_gt (blk_lt (g := g) (o := .cells #[.int .i64 a0_0, .int .i64 a0_1, u9000_] 112 (0, 0)) q4_18) : gb132 ≠ g)); clear HO0_2 BK0 HK HB; have HO0_2 := n0_; have BK0 := n1_; have HK := n2_; have HB := n3_; have BK132 := n4_; have GW132 := n5_; have GE132 := n6_; have NB0_132 := n7_; have NB132_0 := n8_; clear n0_ n1_ n2_ n3_ n4_ n5_ n6_ n7_ n8_; clear hb hbox hg; obtain ⟨Ao28, co28, eo28⟩ := Kd.R_slice HO0_2.out; subst eo28) | ((with_reducible refine gate_callee (f := 76) rfl ?_); refine goesL_ (some 12) rfl rfl Try.func76 q4_30 rfl #[.pointer (some ⟨g, 0, none⟩), .int .i64 a1, .int .i64 a2] rfl q4_26 ?_; (with_reducible refine (grid_Board_there.calls g a0_0 a0_1 (fun k_ => some k_ = (.slice Ao28 l0_2.length co28 : Value).ownBlock) (.slice Ao28 l0_2.length co28) l0_2 a1 a2 false t134 t135 t136 w0 _ ?side2 ?side3 ?side1 ?side4 A5.out).mono ?_); (case side1 => repeat (first | (with_reducible first | exact HB.out | apply below_alloc | apply pw_below_drewN | apply below_drew1 | refine below_set ?_ GE0.out | refine below_set ?_ GE132.out) | exact HB.out)); (case side2 => (with_reducible repeat (first | refine blk_drewN ?_ _ | refine blk_drew ?_ | refine blk_alloc ?_ _)); exact BK0.out); (case side3 => exact GE0.out); (case side4 => exact Kd.R_tight rfl HO0_2.out); rintro e w29 ⟨v137, rfl, ho0, hbx, hb, hkp⟩; refine ⟨_, rfl, ?_⟩; have n0_ := A4_ (hbx); have n1_ := A4_ (blk_kept q4_24 hkp (fun hs_ => Or.elim hs_ (fun hs_ => (fun e_ => (Kd.R_away HO0_2.out (fun _ hk => hk.2)) e_) hs_) (fun e_ => NB132_0.out e_))); have n2_ := A4_ (Kd.R_mono (ok' := fun k_ => (P0_2_ k_ ∨ w.heap.size ≤ k_) ∧ k_ ≠ gb132) ho0 (fun k_ hk_ => ⟨Or.elim hk_ (fun hs_ => (HO0_2.out.1 k_ (hs_).symm).1) (fun hn_ => (.inr (Nat.le_trans q4_25 hn_))), Or.elim hk_ (fun hs_ => fun e_ => (Kd.R_away HO0_2.out (fun _ hk => hk.2)) (by rw [← e_]; exact hs_)) (fun hn_ => (Kd.freshB (g := gb132) (o := .cells #[.int .i32 a3_0, .int .i64 a3_1, .int .i64 a3_2, .int .i64 a3_3] 53 (0, 0)) q4_24 k_ hn_))⟩)); have n3_ := A4_ (Kept.then_ (S := (fun k_ => (P0_2_ k_) ∨ k_ = g)) q4_23 hkp (fun k_ hs_ => Or.elim hs_ (fun hs_ => (fun e_ => Or.imp_left Or.inl ((HO0_2.out.1 k_ e_.symm).1)) hs_) (fun e_ => .inl (.inr e_)))); have n4_ := A4_ (hb); clear BK0 BK132 HK HB HO0_2; have BK0 := n0_; have BK132 := n1_; have HO138 := n2_; have HK := n3_; have HB := n4_; clear n0_ n1_ n2_ n3_ n4_; (try clear hbx); (try clear hbn); (try clear hgn); (try clear hb); (try clear hkp); (try clear ho0)))
  go_ret
  exact ⟨(v137), by first | rfl | (simp [errW_none, errW_some, ptrW_true, ptrW_false] <;> rfl) | (simp [*, errW_none, errW_some, ptrW_true, ptrW_false] <;> rfl), by (with_reducible repeat (first | apply Kd.R_alloc | apply Kd.R_drewN | apply Kd.R_drew)); exact Kd.R_mono HO138.out (fun _ hk => hk.1), q4_18, by repeat (first | (with_reducible first | exact HB.out | apply below_alloc | apply pw_below_drewN | apply below_drew1 | refine below_set ?_ GE0.out | refine below_set ?_ GE132.out) | exact HB.out), by repeat (first | (with_reducible first | exact HK.out | apply Kept.alloc | apply Kept.drewN | apply Kept.drew | refine Kept.setCell ?_ (.inl (.inr rfl)) _ | refine Kept.setCell ?_ (.inr GW132.out) _) | exact HK.out)⟩

-- NOT PRINTED: function 77 (grid_Board_line)

/-! ### grid_Board_Fill: function 83 -/
mutual
def grid_Board_Fill.j0 : Nat → Int → Int → Int → Bool → Int → Int → List (S53) → Int → Int → Int → Int → Option (Int × Int × (List (S53)))
 | 0, _, _, _, _, _, _, _, _, _, _, _ => none
 | k + 1, x1, x2, x3, x19, x1000, x1001, x1002, x146000, x146001, x146002, x146003 => if x19 = true then (some (x1000, x1001, x1002)) else (grid_Board_Fill.l0 k x1 x3 (mx x2 0) x1000 x1001 x1002 x146000 x146001 x146002 x146003)
def grid_Board_Fill.l0 : Nat → Int → Int → Int → Int → Int → List (S53) → Int → Int → Int → Int → Option (Int × Int × (List (S53)))
 | 0, _, _, _, _, _, _, _, _, _, _ => none
 | k + 1, x1, x3, x10, x1000, x1001, x1002, x146000, x146001, x146002, x146003 => if x10 < (mn x3 x1001) then (if 0 ≤ (wrap64 ((wrap64 (x1 * x1001)) + x10)) then (if (wrap64 ((wrap64 (x1 * x1001)) + x10)) < (x1002.length : Int) then (grid_Board_Fill.l0 k x1 x3 (wrap64 (x10 + 1)) x1000 x1001 (x1002.set ((wrap64 ((wrap64 (x1 * x1001)) + x10)) : Int).toNat (⟨x146000, (⟨x146001, x146002, x146003⟩ : S51)⟩ : S53)) x146000 x146001 x146002 x146003) else (none)) else (none)) else (some (x1000, x1001, x1002))
end
def grid_Board_Fill.f (k : Nat) (a0_0 : Int) (a0_1 : Int) (l0_2 : List (S53)) (a1 : Int) (a2 : Int) (a3 : Int) (a4_0 : Int) (a4_1 : Int) (a4_2 : Int) (a4_3 : Int) : Option (Int × Int × (List (S53))) := (grid_Board_there.f a0_0 a0_1 l0_2 a1 0).bind fun bt146 => (if bt146.1 = true then ((cell_Right.f k a4_0 a4_1 a4_2 a4_3).bind fun t152 => (grid_Board_Fill.j0 k a1 a2 a3 (!t152) bt146.2.1 bt146.2.2.1 bt146.2.2.2 a4_0 a4_1 a4_2 a4_3)) else (grid_Board_Fill.j0 k a1 a2 a3 true bt146.2.1 bt146.2.2.1 bt146.2.2.2 a4_0 a4_1 a4_2 a4_3))
theorem grid_Board_Fill.mono_l : ∀ k, (∀ y0 y1 y2 y3 y4 y5 y6 y7 y8 y9 y10, LeO (grid_Board_Fill.j0 k y0 y1 y2 y3 y4 y5 y6 y7 y8 y9 y10) (grid_Board_Fill.j0 (k + 1) y0 y1 y2 y3 y4 y5 y6 y7 y8 y9 y10)) ∧ (∀ y0 y1 y2 y3 y4 y5 y6 y7 y8 y9, LeO (grid_Board_Fill.l0 k y0 y1 y2 y3 y4 y5 y6 y7 y8 y9) (grid_Board_Fill.l0 (k + 1) y0 y1 y2 y3 y4 y5 y6 y7 y8 y9))
 | 0 => ⟨fun _ _ _ _ _ _ _ _ _ _ _ r h => by simp [grid_Board_Fill.j0] at h, fun _ _ _ _ _ _ _ _ _ _ r h => by simp [grid_Board_Fill.l0] at h⟩
 | k + 1 => by
  obtain ⟨ih0, ih1⟩ := grid_Board_Fill.mono_l k
  refine ⟨?_, ?_⟩
  ·intro y0 y1 y2 y3 y4 y5 y6 y7 y8 y9 y10
   unfold grid_Board_Fill.j0
   repeat' first
   | (with_reducible exact ih0 _ _ _ _ _ _ _ _ _ _ _)
   | (with_reducible exact ih1 _ _ _ _ _ _ _ _ _ _)
   | (with_reducible exact cell_Right.mono _ _ _ _ _)
   | (with_reducible exact LeO.refl _)
   | (with_reducible exact LeO.none _)
   | (with_reducible refine LeO.ite ?_ ?_)
   | (with_reducible refine LeO.bind ?_ (fun _ => ?_))
   | exact ih0 _ _ _ _ _ _ _ _ _ _ _
   | exact ih1 _ _ _ _ _ _ _ _ _ _
   | exact cell_Right.mono _ _ _ _ _
   | exact LeO.none _
   | refine LeO.ite ?_ ?_
   | refine LeO.bind ?_ (fun _ => ?_)
  ·intro y0 y1 y2 y3 y4 y5 y6 y7 y8 y9
   unfold grid_Board_Fill.l0
   repeat' first
   | (with_reducible exact ih0 _ _ _ _ _ _ _ _ _ _ _)
   | (with_reducible exact ih1 _ _ _ _ _ _ _ _ _ _)
   | (with_reducible exact cell_Right.mono _ _ _ _ _)
   | (with_reducible exact LeO.refl _)
   | (with_reducible exact LeO.none _)
   | (with_reducible refine LeO.ite ?_ ?_)
   | (with_reducible refine LeO.bind ?_ (fun _ => ?_))
   | exact ih0 _ _ _ _ _ _ _ _ _ _ _
   | exact ih1 _ _ _ _ _ _ _ _ _ _
   | exact cell_Right.mono _ _ _ _ _
   | exact LeO.none _
   | refine LeO.ite ?_ ?_
   | refine LeO.bind ?_ (fun _ => ?_)
theorem grid_Board_Fill.mono : ∀ a0 a1 a2 a3 a4 a5 a6 a7 a8 a9 k, LeO (grid_Board_Fill.f k a0 a1 a2 a3 a4 a5 a6 a7 a8 a9) (grid_Board_Fill.f (k + 1) a0 a1 a2 a3 a4 a5 a6 a7 a8 a9) := by
 intro a0 a1 a2 a3 a4 a5 a6 a7 a8 a9 k
 obtain ⟨ih0, ih1⟩ := grid_Board_Fill.mono_l k
 unfold grid_Board_Fill.f
 repeat' first
   | (with_reducible exact ih0 _ _ _ _ _ _ _ _ _ _ _)
   | (with_reducible exact ih1 _ _ _ _ _ _ _ _ _ _)
   | (with_reducible exact cell_Right.mono _ _ _ _ _)
   | (with_reducible exact LeO.refl _)
   | (with_reducible exact LeO.none _)
   | (with_reducible refine LeO.ite ?_ ?_)
   | (with_reducible refine LeO.bind ?_ (fun _ => ?_))
   | exact ih0 _ _ _ _ _ _ _ _ _ _ _
   | exact ih1 _ _ _ _ _ _ _ _ _ _
   | exact cell_Right.mono _ _ _ _ _
   | exact LeO.none _
   | refine LeO.ite ?_ ?_
   | refine LeO.bind ?_ (fun _ => ?_)
def grid_Board_Fill.T5 : Bool × List (List Nat × List Nat) := (true, [([], []), ([0], [0]), ([1], [1]), ([2], [2]), ([], []), ([], []), ([5], [5]), ([6], [6]), ([7], [7]), ([4, 8], [4, 8]), ([], []), ([9, 10], [9, 10]), ([], []), ([3, 11, 0, 1, 2, 3, 4, 5, 6, 7, 8, 9, 10, 11, 12], [3, 11]), ([13, 12, 0, 1, 2, 3, 4, 5, 6, 7, 8, 9, 10, 11, 12], [12, 13])])
def grid_Board_Fill.B5 : List Nat := [0, 1, 3, 7, 0, 0, 32, 96, 224, 496, 0, 2032, 0, 8191, 16383]
theorem grid_Board_Fill.tab5 : rtab .any (opsOf Try.f83 5) = grid_Board_Fill.T5 := by kernel_rfl
theorem grid_Board_Fill.bits5 : waitsOk grid_Board_Fill.T5.2 grid_Board_Fill.B5 = true := by kernel_rfl
set_option maxHeartbeats 8000000 in
set_option maxRecDepth 100000 in
theorem grid_Board_Fill.calls (k : Nat) (g : Nat) (a0_0 : Int) (a0_1 : Int) (P0_2_ : Nat → Prop) (u9000_ : Value) (l0_2 : List (S53)) (a1 : Int) (a2 : Int) (a3 : Int) (a4_0 : Int) (a4_1 : Int) (a4_2 : Int) (a4_3 : Int) (r1 : Int) (r2 : Int) (r3 : List (S53)) (w0 w : World) (hb : w.heap[g]? = some (.cells #[.int .i64 a0_0, .int .i64 a0_1, u9000_] 112 (0, 0))) (hg : w0.heap.size ≤ g) (hB : Below w0.heap.size w0 w) (ho0_2 : Kd.R k53 53 w w0.heap.size P0_2_ u9000_ l0_2) (h : grid_Board_Fill.f k a0_0 a0_1 l0_2 a1 a2 a3 a4_0 a4_1 a4_2 a4_3 = some (r1, r2, r3)) :
  Calls Try.prog 83 #[.pointer (some ⟨g, 0, none⟩), .int .i64 a1, .int .i64 a2, .int .i64 a3, .agg #[.int .i32 a4_0, .int .i64 a4_1, .int .i64 a4_2, .int .i64 a4_3]] w fun e w' => ∃ v2_ : Value, Aside0 (e = .returned (.tuple #[]) ∧ Kd.R k53 53 w' w0.heap.size (fun k_ => (P0_2_ k_ ∨ w.heap.size ≤ k_)) v2_ r3 ∧ w'.heap[g]? = some (.cells #[.int .i64 r1, .int .i64 r2, v2_] 112 (0, 0)) ∧ Below w0.heap.size w0 w' ∧ Kept w w' (fun k_ => (P0_2_ k_) ∨ k_ = g)) := by
 have hu53 := Try.underlying53
 have HO0_2 := A4_ (show Kd.R k53 53 w w0.heap.size (fun k_ => (P0_2_ k_ ∨ w.heap.size ≤ k_)) u9000_ l0_2 from Kd.R_mono ho0_2 (fun k_ hk => (.inl hk)))
 have HK := A4_ (Kept.refl w (fun k_ => (P0_2_ k_) ∨ k_ = g))
 have BK0 := A4_ hb
 have GE0 := A4_ hg
 clear hb hg
 have HW0 := A4_ hB.size
 have HB := A4_ hB
 clear hB
 have H : ((grid_Board_there.f a0_0 a0_1 l0_2 a1 0).bind fun bt146 => (if bt146.1 = true then ((cell_Right.f k a4_0 a4_1 a4_2 a4_3).bind fun t152 => (grid_Board_Fill.j0 k a1 a2 a3 (!t152) bt146.2.1 bt146.2.2.1 bt146.2.2.2 a4_0 a4_1 a4_2 a4_3)) else (grid_Board_Fill.j0 k a1 a2 a3 true bt146.2.1 bt146.2.2.1 bt146.2.2.2 a4_0 a4_1 a4_2 a4_3))) = some (r1, r2, r3) := h
 clear h
 have HC6 := A4_ H
 clear H
 go_enter Try.func83, Try.ntmps83
 go_upto_region 1 with (first | ((with_reducible refine gate_dst (N := 9) rfl ?_); refine box_event ?hg (N := 9) ?hd (cs := #[.int .i32 a4_0, .int .i64 a4_1, .int .i64 a4_2, .int .i64 a4_3]) (t := 53) ?hr ?_; (case hd => rfl); (case hg => rfl); (case hr => first | (go_simp; done) | (go_simp; rfl)); intro gb145 hg w7 hbox hb; have n0_ := A4_ (Kd.R_below (Kd.R_elderB q4_22 gb145 (Nat.le_of_eq hg.symm)) hb); have n1_ := A4_ (blk_below (g := g) (o := .cells #[.int .i64 a0_0, .int .i64 a0_1, u9000_] 112 (0, 0)) q4_18 hb); have n2_ := A4_ (Kept.below (S := (fun k_ => (P0_2_ k_) ∨ k_ = g)) q4_21 hb); have n3_ := A4_ (below_step q4_19 hb); have n4_ := A4_ (hbox); have n5_ := A4_ ((by rw [hg]; exact q4_20 : w.heap.size ≤ gb145)); have n6_ := A4_ ((by rw [hg]; exact (below_size q4_19) : w0.heap.size ≤ gb145)); have n7_ := A4_ ((by rw [hg]; exact Nat.ne_of_lt (blk_lt (g := g) (o := .cells #[.int .i64 a0_0, .int .i64 a0_1, u9000_] 112 (0, 0)) q4_18) : g ≠ gb145)); have n8_ := A4_ ((by rw [hg]; exact Nat.ne_of_gt (blk_lt (g := g) (o := .cells #[.int .i64 a0_0, .int .i64 a0_1, u9000_] 112 (0, 0)) q4_18) : gb145 ≠ g)); clear HO0_2 BK0 HK HB; have HO0_2 := n0_; have BK0 := n1_; have HK := n2_; have HB := n3_; have BK145 := n4_; have GW145 := n5_; have GE145 := n6_; have NB0_145 := n7_; have NB145_0 := n8_; clear n0_ n1_ n2_ n3_ n4_ n5_ n6_ n7_ n8_; clear hb hbox hg))
 (try simp only [Act.put, setIfInBounds_toArray, set_cons_zero, set_cons_succ])
 go_cut [19] (fun v19 wc => ∃ (kq : Nat) (x19_5 : Bool) (x1000_5 : Int) (x1001_5 : Int) (x1002_5 : List (S53)) (u1002 : Value), v19 = .bool x19_5 ∧ Aside0 (grid_Board_Fill.j0 kq a1 a2 a3 x19_5 x1000_5 x1001_5 x1002_5 a4_0 a4_1 a4_2 a4_3 = some (r1, r2, r3)) ∧ Aside0 (kq ≤ k) ∧ Aside0 (Kd.R k53 53 wc w0.heap.size (fun k_ => (P0_2_ k_ ∨ w.heap.size ≤ k_) ∧ k_ ≠ gb145) u1002 x1002_5) ∧ Aside0 (wc.heap[g]? = some (.cells #[.int .i64 x1000_5, .int .i64 x1001_5, u1002] 112 (0, 0))) ∧ Aside0 (wc.heap[gb145]? = some (.cells #[.int .i32 a4_0, .int .i64 a4_1, .int .i64 a4_2, .int .i64 a4_3] 53 (0, 0))) ∧ Aside0 (Kept w wc (fun k_ => (P0_2_ k_) ∨ k_ = g)) ∧ Aside0 (Below w0.heap.size w0 wc))
 case first =>
  have H := HC6.out
  clear HC6
  replace H := Option.bind_eq_some_iff.mp H
  obtain ⟨⟨t146, t147, t148, t149⟩, A80, H⟩ := H
  replace H : (if t146 = true then ((cell_Right.f k a4_0 a4_1 a4_2 a4_3).bind fun t152 => (grid_Board_Fill.j0 k a1 a2 a3 (!t152) t147 t148 t149 a4_0 a4_1 a4_2 a4_3)) else (grid_Board_Fill.j0 k a1 a2 a3 true t147 t148 t149 a4_0 a4_1 a4_2 a4_3)) = some (r1, r2, r3) := H
  have A8 := A4_ A80
  clear A80
  by_cases c9 : t146 = true
  ·subst c9
   have H1 : ((cell_Right.f k a4_0 a4_1 a4_2 a4_3).bind fun t152 => (grid_Board_Fill.j0 k a1 a2 a3 (!t152) t147 t148 t149 a4_0 a4_1 a4_2 a4_3)) = some (r1, r2, r3) := by rw [if_pos rfl] at H; exact H
   clear H; have H := H1; clear H1
   replace H := Option.bind_eq_some_iff.mp H
   obtain ⟨t152, A100, H⟩ := H
   replace H : (grid_Board_Fill.j0 k a1 a2 a3 (!t152) t147 t148 t149 a4_0 a4_1 a4_2 a4_3) = some (r1, r2, r3) := H
   have A10 := A4_ A100
   clear A100
   have H' := A4_ H
   clear H
   obtain ⟨Ao11, co11, eo11⟩ := Kd.R_slice HO0_2.out
   subst eo11
   go_wp2_with (first | ((with_reducible refine gate_callee (f := 76) rfl ?_); refine goesL_ (some 13) rfl rfl Try.func76 q4_30 rfl #[.pointer (some ⟨g, 0, none⟩), .int .i64 a1, .int .i64 0] rfl q4_26 ?_; (with_reducible refine (grid_Board_there.calls g a0_0 a0_1 (fun k_ => some k_ = (.slice Ao11 l0_2.length co11 : Value).ownBlock) (.slice Ao11 l0_2.length co11) l0_2 a1 0 true t147 t148 t149 w0 _ ?side2 ?side3 ?side1 ?side4 A8.out).mono ?_); (case side1 => repeat (first | (with_reducible first | exact HB.out | apply below_alloc | apply pw_below_drewN | apply below_drew1 | refine below_set ?_ GE0.out | refine below_set ?_ GE145.out) | exact HB.out)); (case side2 => (with_reducible repeat (first | refine blk_drewN ?_ _ | refine blk_drew ?_ | refine blk_alloc ?_ _)); exact BK0.out); (case side3 => exact GE0.out); (case side4 => exact Kd.R_tight rfl HO0_2.out); rintro e w12 ⟨v150, rfl, ho0, hbx, hb, hkp⟩; refine ⟨_, rfl, ?_⟩; have n0_ := A4_ (hbx); have n1_ := A4_ (blk_kept q4_28 hkp (fun hs_ => Or.elim hs_ (fun hs_ => (fun e_ => (Kd.R_away HO0_2.out (fun _ hk => hk.2)) e_) hs_) (fun e_ => NB145_0.out e_))); have n2_ := A4_ (Kd.R_mono (ok' := fun k_ => (P0_2_ k_ ∨ w.heap.size ≤ k_) ∧ k_ ≠ gb145) ho0 (fun k_ hk_ => ⟨Or.elim hk_ (fun hs_ => (HO0_2.out.1 k_ (hs_).symm).1) (fun hn_ => (.inr (Nat.le_trans q4_31 hn_))), Or.elim hk_ (fun hs_ => fun e_ => (Kd.R_away HO0_2.out (fun _ hk => hk.2)) (by rw [← e_]; exact hs_)) (fun hn_ => (Kd.freshB (g := gb145) (o := .cells #[.int .i32 a4_0, .int .i64 a4_1, .int .i64 a4_2, .int .i64 a4_3] 53 (0, 0)) q4_28 k_ hn_))⟩)); have n3_ := A4_ (Kept.then_ (S := (fun k_ => (P0_2_ k_) ∨ k_ = g)) q4_29 hkp (fun k_ hs_ => Or.elim hs_ (fun hs_ => (fun e_ => Or.imp_left Or.inl ((HO0_2.out.1 k_ e_.symm).1)) hs_) (fun e_ => .inl (.inr e_)))); have n4_ := A4_ (hb); clear BK0 BK145 HK HB HO0_2; have BK0 := n0_; have BK145 := n1_; have HO151 := n2_; have HK := n3_; have HB := n4_; clear n0_ n1_ n2_ n3_ n4_; (try clear hbx); (try clear hbn); (try clear hgn); (try clear hb); (try clear hkp); (try clear ho0); have hnb13 := NB145_0.out; have hnc13 := NB0_145.out; have hcz14_0 : w12.cell? ⟨gb145, 0, none⟩ = some (.int .i32 a4_0) := (blk_cell BK145.out 0).trans rfl; have hcz14_1 : w12.cell? ⟨gb145, 1, none⟩ = some (.int .i64 a4_1) := (blk_cell BK145.out 1).trans rfl; have hcz14_2 : w12.cell? ⟨gb145, 2, none⟩ = some (.int .i64 a4_2) := (blk_cell BK145.out 2).trans rfl; have hcz14_3 : w12.cell? ⟨gb145, 3, none⟩ = some (.int .i64 a4_3) := (blk_cell BK145.out 3).trans rfl; have hfz14_0 := blk_frozen BK145.out 0; have hfz14_1 := blk_frozen BK145.out 1; have hfz14_2 := blk_frozen BK145.out 2; have hfz14_3 := blk_frozen BK145.out 3) | (go_at_call 35; (with_reducible refine (cell_Right.calls k a4_0 a4_1 a4_2 a4_3 t152 _ A10.out).mono ?_); rintro e w15 ⟨rfl, hb⟩; have n0_ := A4_ (Kd.R_below (by (with_reducible repeat (first | apply Kd.R_alloc | apply Kd.R_drewN | apply Kd.R_drew)); exact HO151.out) hb); have n1_ := A4_ (blk_below (g := g) (o := .cells #[.int .i64 t147, .int .i64 t148, v150] 112 (0, 0)) q4_18 hb); have n2_ := A4_ (blk_below (g := gb145) (o := .cells #[.int .i32 a4_0, .int .i64 a4_1, .int .i64 a4_2, .int .i64 a4_3] 53 (0, 0)) q4_28 hb); have n3_ := A4_ (Kept.below (S := (fun k_ => (P0_2_ k_) ∨ k_ = g)) q4_29 hb); have n4_ := A4_ (below_step (by repeat (first | (with_reducible first | exact HB.out | apply below_alloc | apply pw_below_drewN | apply below_drew1 | refine below_set ?_ GE0.out | refine below_set ?_ GE145.out) | exact HB.out)) hb); clear HO151 BK0 BK145 HK HB; have HO151 := n0_; have BK0 := n1_; have BK145 := n2_; have HK := n3_; have HB := n4_; clear n0_ n1_ n2_ n3_ n4_; (try clear hb); (try clear hb2); (try clear hk); (try clear hi)))
   go_meet
   case rel => exact ⟨_, (!t152), (t147), (t148), (t149), (v150), (by first | rfl | (simp; done) | (simp [*]; done)), H', ⟨by first | omega | exact Nat.le_refl _⟩, ⟨by (with_reducible repeat (first | apply Kd.R_alloc | apply Kd.R_drewN | apply Kd.R_drew)); exact HO151.out⟩, ⟨by (with_reducible repeat (first | refine blk_drewN ?_ _ | refine blk_drew ?_ | refine blk_alloc ?_ _)); exact BK0.out⟩, ⟨by (with_reducible repeat (first | refine blk_drewN ?_ _ | refine blk_drew ?_ | refine blk_alloc ?_ _)); exact BK145.out⟩, ⟨by repeat (first | (with_reducible first | exact HK.out | apply Kept.alloc | apply Kept.drewN | apply Kept.drew | refine Kept.setCell ?_ (.inl (.inr rfl)) _ | refine Kept.setCell ?_ (.inr GW145.out) _) | exact HK.out)⟩, ⟨by repeat (first | (with_reducible first | exact HB.out | apply below_alloc | apply pw_below_drewN | apply below_drew1 | refine below_set ?_ GE0.out | refine below_set ?_ GE145.out) | exact HB.out)⟩⟩
  ·replace c9 := Bool.eq_false_iff.mpr c9
   subst c9
   have H1 : (grid_Board_Fill.j0 k a1 a2 a3 true t147 t148 t149 a4_0 a4_1 a4_2 a4_3) = some (r1, r2, r3) := by rw [if_neg (show ¬ (false = true) by decide)] at H; exact H
   clear H; have H := H1; clear H1
   have H' := A4_ H
   clear H
   obtain ⟨Ao16, co16, eo16⟩ := Kd.R_slice HO0_2.out
   subst eo16
   go_wp2_with (first | ((with_reducible refine gate_callee (f := 76) rfl ?_); refine goesL_ (some 13) rfl rfl Try.func76 q4_30 rfl #[.pointer (some ⟨g, 0, none⟩), .int .i64 a1, .int .i64 0] rfl q4_26 ?_; (with_reducible refine (grid_Board_there.calls g a0_0 a0_1 (fun k_ => some k_ = (.slice Ao16 l0_2.length co16 : Value).ownBlock) (.slice Ao16 l0_2.length co16) l0_2 a1 0 false t147 t148 t149 w0 _ ?side2 ?side3 ?side1 ?side4 A8.out).mono ?_); (case side1 => repeat (first | (with_reducible first | exact HB.out | apply below_alloc | apply pw_below_drewN | apply below_drew1 | refine below_set ?_ GE0.out | refine below_set ?_ GE145.out) | exact HB.out)); (case side2 => (with_reducible repeat (first | refine blk_drewN ?_ _ | refine blk_drew ?_ | refine blk_alloc ?_ _)); exact BK0.out); (case side3 => exact GE0.out); (case side4 => exact Kd.R_tight rfl HO0_2.out); rintro e w17 ⟨v150, rfl, ho0, hbx, hb, hkp⟩; refine ⟨_, rfl, ?_⟩; have n0_ := A4_ (hbx); have n1_ := A4_ (blk_kept q4_28 hkp (fun hs_ => Or.elim hs_ (fun hs_ => (fun e_ => (Kd.R_away HO0_2.out (fun _ hk => hk.2)) e_) hs_) (fun e_ => NB145_0.out e_))); have n2_ := A4_ (Kd.R_mono (ok' := fun k_ => (P0_2_ k_ ∨ w.heap.size ≤ k_) ∧ k_ ≠ gb145) ho0 (fun k_ hk_ => ⟨Or.elim hk_ (fun hs_ => (HO0_2.out.1 k_ (hs_).symm).1) (fun hn_ => (.inr (Nat.le_trans q4_31 hn_))), Or.elim hk_ (fun hs_ => fun e_ => (Kd.R_away HO0_2.out (fun _ hk => hk.2)) (by rw [← e_]; exact hs_)) (fun hn_ => (Kd.freshB (g := gb145) (o := .cells #[.int .i32 a4_0, .int .i64 a4_1, .int .i64 a4_2, .int .i64 a4_3] 53 (0, 0)) q4_28 k_ hn_))⟩)); have n3_ := A4_ (Kept.then_ (S := (fun k_ => (P0_2_ k_) ∨ k_ = g)) q4_29 hkp (fun k_ hs_ => Or.elim hs_ (fun hs_ => (fun e_ => Or.imp_left Or.inl ((HO0_2.out.1 k_ e_.symm).1)) hs_) (fun e_ => .inl (.inr e_)))); have n4_ := A4_ (hb); clear BK0 BK145 HK HB HO0_2; have BK0 := n0_; have BK145 := n1_; have HO151 := n2_; have HK := n3_; have HB := n4_; clear n0_ n1_ n2_ n3_ n4_; (try clear hbx); (try clear hbn); (try clear hgn); (try clear hb); (try clear hkp); (try clear ho0)))
   go_meet
   case rel => exact ⟨_, (true), (t147), (t148), (t149), (v150), (by first | rfl | (simp; done) | (simp [*]; done)), H', ⟨by first | omega | exact Nat.le_refl _⟩, ⟨by (with_reducible repeat (first | apply Kd.R_alloc | apply Kd.R_drewN | apply Kd.R_drew)); exact HO151.out⟩, ⟨by (with_reducible repeat (first | refine blk_drewN ?_ _ | refine blk_drew ?_ | refine blk_alloc ?_ _)); exact BK0.out⟩, ⟨by (with_reducible repeat (first | refine blk_drewN ?_ _ | refine blk_drew ?_ | refine blk_alloc ?_ _)); exact BK145.out⟩, ⟨by repeat (first | (with_reducible first | exact HK.out | apply Kept.alloc | apply Kept.drewN | apply Kept.drew | refine Kept.setCell ?_ (.inl (.inr rfl)) _ | refine Kept.setCell ?_ (.inr GW145.out) _) | exact HK.out)⟩, ⟨by repeat (first | (with_reducible first | exact HB.out | apply below_alloc | apply pw_below_drewN | apply below_drew1 | refine below_set ?_ GE0.out | refine below_set ?_ GE145.out) | exact HB.out)⟩⟩
 case rest =>
  clear HC6
  try clear c1
  try clear p2
  try clear c7
  try clear c8
  try clear c9
  try clear c13
  try clear hcz14_0
  try clear hcz14_1
  try clear hcz14_2
  try clear hcz14_3
  try clear hfz14_0
  try clear hfz14_1
  try clear hfz14_2
  try clear hfz14_3
  obtain ⟨kq, x19_5, x1000_5, x1001_5, x1002_5, u1002, rfl, HA, HJ5, HO_1002, BK0, BK145, HK, HB⟩ := hcut
  cases kq with
  | zero => exact absurd HA.out (by simp [grid_Board_Fill.j0])
  | succ kj5 =>
   have H := HA.out
   clear HA
   simp only [grid_Board_Fill.j0] at H
   by_cases c18 : x19_5 = true
   ·subst c18
    have H1 : (some (x1000_5, x1001_5, x1002_5)) = some (r1, r2, r3) := by rw [if_pos rfl] at H; exact H
    clear H; have H := H1; clear H1
    simp only [Option.some.injEq, Prod.mk.injEq] at H
    obtain ⟨rfl, rfl, rfl⟩ := H
    go_wp2
    first | ((try simp only [Exit.inBlock, Exit.then]); refine bodyPost_ret (results_none rfl _ _ _) rfl ?_) | go_end0
    exact ⟨(u1002), by first | rfl | (simp [errW_none, errW_some, ptrW_true, ptrW_false] <;> rfl) | (simp [*, errW_none, errW_some, ptrW_true, ptrW_false] <;> rfl), by (with_reducible repeat (first | apply Kd.R_alloc | apply Kd.R_drewN | apply Kd.R_drew)); exact Kd.R_mono HO_1002.out (fun _ hk => hk.1), q4_18, by repeat (first | (with_reducible first | exact HB.out | apply below_alloc | apply pw_below_drewN | apply below_drew1 | refine below_set ?_ GE0.out | refine below_set ?_ GE145.out) | exact HB.out), by repeat (first | (with_reducible first | exact HK.out | apply Kept.alloc | apply Kept.drewN | apply Kept.drew | refine Kept.setCell ?_ (.inl (.inr rfl)) _ | refine Kept.setCell ?_ (.inr GW145.out) _) | exact HK.out)⟩
   ·replace c18 := Bool.eq_false_iff.mpr c18
    subst c18
    have H1 : (grid_Board_Fill.l0 kj5 a1 a3 (mx a2 0) x1000_5 x1001_5 x1002_5 a4_0 a4_1 a4_2 a4_3) = some (r1, r2, r3) := by rw [if_neg (show ¬ (false = true) by decide)] at H; exact H
    clear H; have H := H1; clear H1
    obtain ⟨ji19, hji19⟩ : ∃ j_ : Int, (mx a2 0) = j_ := ⟨_, rfl⟩
    replace H : (grid_Board_Fill.l0 kj5 a1 a3 ji19 x1000_5 x1001_5 x1002_5 a4_0 a4_1 a4_2 a4_3) = some (r1, r2, r3) := by first | (rw [hji19] at H; exact H) | (simp only [hji19] at H ⊢; exact H)
    have hji19_ : (if a2 < 0 then 0 else a2) = ji19 := hji19
    have H' := A4_ H
    clear H
    go_wp2
    go_loopg [10] kj5 (fun kq v10 w' => ∃ (x10_2 : Int) (x1002_2 : List (S53)) (x146000_2 : Int) (x146001_2 : Int) (x146002_2 : Int) (x146003_2 : Int) (u1002 : Value), v10 = .int .i64 x10_2 ∧ Aside0 (grid_Board_Fill.l0 kq a1 a3 x10_2 x1000_5 x1001_5 x1002_2 x146000_2 x146001_2 x146002_2 x146003_2 = some (r1, r2, r3)) ∧ Aside0 (kq ≤ kj5) ∧ Aside0 (Kd.R k53 53 w' w0.heap.size (fun k_ => (P0_2_ k_ ∨ w.heap.size ≤ k_) ∧ k_ ≠ gb145) u1002 x1002_2) ∧ Aside0 (w'.heap[g]? = some (.cells #[.int .i64 x1000_5, .int .i64 x1001_5, u1002] 112 (0, 0))) ∧ Aside0 (w'.heap[gb145]? = some (.cells #[.int .i32 x146000_2, .int .i64 x146001_2, .int .i64 x146002_2, .int .i64 x146003_2] 53 (0, 0))) ∧ Aside0 (Kept w w' (fun k_ => (P0_2_ k_) ∨ k_ = g)) ∧ Aside0 (Below w0.heap.size w0 w'))
    case atStart => exact ⟨(ji19), (x1002_5), (a4_0), (a4_1), (a4_2), (a4_3), (u1002), (by first | rfl | (simp; done) | (simp only [← hji19] <;> (first | rfl | simp)) | (simp [*]; done)), H', ⟨Nat.le_refl _⟩, ⟨by (with_reducible repeat (first | apply Kd.R_alloc | apply Kd.R_drewN | apply Kd.R_drew)); exact HO_1002.out⟩, ⟨by (with_reducible repeat (first | refine blk_drewN ?_ _ | refine blk_drew ?_ | refine blk_alloc ?_ _)); exact BK0.out⟩, ⟨by (with_reducible repeat (first | refine blk_drewN ?_ _ | refine blk_drew ?_ | refine blk_alloc ?_ _)); exact BK145.out⟩, ⟨by repeat (first | (with_reducible first | exact HK.out | apply Kept.alloc | apply Kept.drewN | apply Kept.drew | refine Kept.setCell ?_ (.inl (.inr rfl)) _ | refine Kept.setCell ?_ (.inr GW145.out) _) | exact HK.out)⟩, ⟨by repeat (first | (with_reducible first | exact HB.out | apply below_alloc | apply pw_below_drewN | apply below_drew1 | refine below_set ?_ GE0.out | refine below_set ?_ GE145.out) | exact HB.out)⟩⟩
    case round =>
     clear H'
     try clear c1
     try clear p2
     try clear c7
     try clear c8
     try clear c9
     try clear c13
     try clear c18
     try clear hcz14_0
     try clear hcz14_1
     try clear hcz14_2
     try clear hcz14_3
     try clear hfz14_0
     try clear hfz14_1
     try clear hfz14_2
     try clear hfz14_3
     try clear p2
     obtain ⟨x10_2, x1002_2, x146000_2, x146001_2, x146002_2, x146003_2, u1002, rfl, HA, HK2, HO_1002, BK0, BK145, HK, HB⟩ := hrel
     cases gk with
     | zero => exact absurd HA.out (by simp [grid_Board_Fill.l0])
     | succ k2 =>
      have H := HA.out
      clear HA
      simp only [grid_Board_Fill.l0] at H
      obtain ⟨ji20, hji20⟩ : ∃ j_ : Int, (mn a3 x1001_5) = j_ := ⟨_, rfl⟩
      replace H : (if x10_2 < (ji20) then (if 0 ≤ (wrap64 ((wrap64 (a1 * x1001_5)) + x10_2)) then (if (wrap64 ((wrap64 (a1 * x1001_5)) + x10_2)) < (x1002_2.length : Int) then (grid_Board_Fill.l0 k2 a1 a3 (wrap64 (x10_2 + 1)) x1000_5 x1001_5 (x1002_2.set ((wrap64 ((wrap64 (a1 * x1001_5)) + x10_2)) : Int).toNat (⟨x146000_2, (⟨x146001_2, x146002_2, x146003_2⟩ : S51)⟩ : S53)) x146000_2 x146001_2 x146002_2 x146003_2) else (none)) else (none)) else (some (x1000_5, x1001_5, x1002_2))) = some (r1, r2, r3) := by first | (rw [hji20] at H; exact H) | (simp only [hji20] at H ⊢; exact H)
      have hji20_ : (if x1001_5 < a3 then x1001_5 else a3) = ji20 := hji20
      by_cases c21 : x10_2 < (ji20)
      ·rw [if_pos c21] at H
       have c21b0 : decide (x10_2 < (ji20)) = true := decide_eq_true c21
       clear c21
       obtain ⟨ji22, hji22⟩ : ∃ j_ : Int, (wrap64 ((wrap64 (a1 * x1001_5)) + x10_2)) = j_ := ⟨_, rfl⟩
       replace H : (if 0 ≤ (ji22) then (if (ji22) < (x1002_2.length : Int) then (grid_Board_Fill.l0 k2 a1 a3 (wrap64 (x10_2 + 1)) x1000_5 x1001_5 (x1002_2.set ((ji22) : Int).toNat (⟨x146000_2, (⟨x146001_2, x146002_2, x146003_2⟩ : S51)⟩ : S53)) x146000_2 x146001_2 x146002_2 x146003_2) else (none)) else (none)) = some (r1, r2, r3) := by first | (rw [hji22] at H; exact H) | (simp only [hji22] at H ⊢; exact H)
       have hji22w : (IntKind.i64.wrap ((wrap64 (a1 * x1001_5)) + x10_2)) = ji22 := (i64_w _).trans hji22
       by_cases c23 : 0 ≤ (ji22)
       ·rw [if_pos c23] at H
        have c23b0 : decide (0 ≤ (ji22)) = true := decide_eq_true c23
        clear c23
        by_cases c24 : (ji22) < (x1002_2.length : Int)
        ·rw [if_pos c24] at H
         have c24b0 : decide ((ji22) < (x1002_2.length : Int)) = true := decide_eq_true c24
         clear c24
         obtain ⟨y153, hy153⟩ : ∃ y_ : List (S53), y_ = (x1002_2.set ((ji22) : Int).toNat (⟨x146000_2, (⟨x146001_2, x146002_2, x146003_2⟩ : S51)⟩ : S53)) := ⟨_, rfl⟩
         replace H : (grid_Board_Fill.l0 k2 a1 a3 (wrap64 (x10_2 + 1)) x1000_5 x1001_5 y153 x146000_2 x146001_2 x146002_2 x146003_2) = some (r1, r2, r3) := by first | (rw [hy153]; with_reducible exact H) | (have H2_ := (Option.bind_some _ _).symm.trans H; rw [hy153]; with_reducible exact H2_) | (have H2_ := (Option.bind_some _ _).symm.trans H; with_reducible exact H2_) | with_reducible exact H | (rw [hy153]; exact H) | exact H
         have Ny153 := A4_ hy153
         clear hy153
         have H' := A4_ H
         clear H
         have hnb26 := NB0_145.out
         have hnc26 := NB145_0.out
         have hcz27_0 : wr.cell? ⟨g, 0, none⟩ = some (.int .i64 x1000_5) := (blk_cell BK0.out 0).trans rfl
         have hcz27_1 : wr.cell? ⟨g, 1, none⟩ = some (.int .i64 x1001_5) := (blk_cell BK0.out 1).trans rfl
         have hcz27_2 : wr.cell? ⟨g, 2, none⟩ = some (u1002) := (blk_cell BK0.out 2).trans rfl
         have hfz27_0 := blk_frozen BK0.out 0
         have hfz27_1 := blk_frozen BK0.out 1
         have hfz27_2 := blk_frozen BK0.out 2
         try go_wp2
         have n0_ := A4_ (Kd.R_drew HO_1002.out)
         have n1_ := A4_ (blk_drew BK0.out)
         have n2_ := A4_ (blk_drew BK145.out)
         have n3_ := A4_ (Kept.drew HK.out)
         have n4_ := A4_ (below_drew1 HB.out)
         clear HO_1002; clear BK0; clear BK145; clear HK; clear HB; have HO_1002 := n0_; have BK0 := n1_; have BK145 := n2_; have HK := n3_; have HB := n4_; clear n0_ n1_ n2_ n3_ n4_
         have p25 : 0 ≤ ((ji22) : Int) := of_decide_eq_true q4_27
         have q25 : ((ji22) : Int) < ((x1002_2.length : Int) : Int) := of_decide_eq_true q4_27
         obtain ⟨go25, co25, eo25, gb25, gl25, cl25, HG25⟩ := Kd.R_form HO_1002.out (by omega)
         (first | cases eo25 | (injection eo25 with ea_ en_ ec_; (first | subst ea_ | (injection ea_ with ea_; subst ea_)); subst ec_; clear en_))
         have GB25 := A4_ gb25
         have GG25 := A4_ HG25
         clear gb25 gl25 HG25
         have HMgo25 := A4_ (show (P0_2_ go25 ∨ w.heap.size ≤ go25) from (HO_1002.out.1 _ rfl).1)
         obtain ⟨ce25, hcl25, hM25, hcc25, hfr25⟩ := Kd.R_elem HO_1002.out z53 ((ji22) : Int) p25 q25
         obtain rfl := k53_openM hM25
         have hx25_0 : World.cell? _ ⟨go25, ((ji22) : Int).toNat * 4, none⟩ = some (.int .i32 ((rd_T53 x1002_2 (ji22)).f0)) := hcc25 0 _ rfl
         have hx25_1 : World.cell? _ ⟨go25, ((ji22) : Int).toNat * 4 + 1, none⟩ = some (.int .i64 ((rd_T53 x1002_2 (ji22)).f1.f0)) := hcc25 1 _ rfl
         have hx25_2 : World.cell? _ ⟨go25, ((ji22) : Int).toNat * 4 + 2, none⟩ = some (.int .i64 ((rd_T53 x1002_2 (ji22)).f1.f1)) := hcc25 2 _ rfl
         have hx25_3 : World.cell? _ ⟨go25, ((ji22) : Int).toNat * 4 + 3, none⟩ = some (.int .i64 ((rd_T53 x1002_2 (ji22)).f1.f2)) := hcc25 3 _ rfl
         have hf25_0 : World.frozen? _ ⟨go25, ((ji22) : Int).toNat * 4, none⟩ = false := hfr25 0
         have hf25_1 : World.frozen? _ ⟨go25, ((ji22) : Int).toNat * 4 + 1, none⟩ = false := hfr25 1
         have hf25_2 : World.frozen? _ ⟨go25, ((ji22) : Int).toNat * 4 + 2, none⟩ = false := hfr25 2
         have hf25_3 : World.frozen? _ ⟨go25, ((ji22) : Int).toNat * 4 + 3, none⟩ = false := hfr25 3
         clear hcl25 hcc25 hfr25 hM25
         replace p25 := eq_true p25
         replace q25 := eq_true q25
         obtain ⟨ce29, hcl29, hM29, hcc29, hfr29⟩ := Kd.R_elem HO_1002.out z53 ((ji22) : Int) (of_decide_eq_true q4_27) (by have h_ : ((ji22) : Int) < ((x1002_2.length : Int) : Int) := of_decide_eq_true q4_27; first | exact h_ | (have e_ := (Kd.R_reads' HO_1002.out).1; omega) | simpa using h_)
         obtain rfl := k53_openM hM29
         have HP29 := (Kd.R_seg HO_1002.out ((ji22) : Int) (of_decide_eq_true q4_27) (by have h_ : ((ji22) : Int) < ((x1002_2.length : Int) : Int) := of_decide_eq_true q4_27; first | exact h_ | (have e_ := (Kd.R_reads' HO_1002.out).1; omega) | simpa using h_) (seg := [.int .i32 x146000_2, .int .i64 x146001_2, .int .i64 x146002_2, .int .i64 x146003_2]) (j := 0) hcl29 hcc29 (show 4 ≤ 4 from by decide) (x' := (⟨x146000_2, (⟨x146001_2, x146002_2, x146003_2⟩ : S51)⟩ : S53)) (k53_mkM _ _ _ (⟨x146000_2, (⟨x146001_2, x146002_2, x146003_2⟩ : S51)⟩ : S53) ) (fun _ hk => hk)).1
         rw [← Ny153.out] at HP29
         have HQ29 := A4_ HP29
         clear hcl29 hcc29 hfr29 hM29 HP29
         refine start_ (n := 15) (S := fun w' => w'.cell? ⟨g, 0, none⟩ = some (.int .i64 x1000_5) ∧ w'.cell? ⟨g, 1, none⟩ = some (.int .i64 x1001_5) ∧ w'.cell? ⟨g, 2, none⟩ = some (.slice (some ⟨go25, 0, none⟩) x1002_2.length co25) ∧ w'.cell? ⟨gb145, 0, none⟩ = some (.int .i32 x146000_2) ∧ w'.cell? ⟨gb145, 1, none⟩ = some (.int .i64 x146001_2) ∧ w'.cell? ⟨gb145, 2, none⟩ = some (.int .i64 x146002_2) ∧ w'.cell? ⟨gb145, 3, none⟩ = some (.int .i64 x146003_2)) (ds := [14]) m4_0 q4_30 rfl rfl ⟨(blk_cell BK0.out 0).trans rfl, (blk_cell BK0.out 1).trans rfl, (blk_cell BK0.out 2).trans rfl, (blk_cell BK145.out 0).trans rfl, (blk_cell BK145.out 1).trans rfl, (blk_cell BK145.out 2).trans rfl, (blk_cell BK145.out 3).trans rfl⟩ (fun hHeld => ?_); refine with_tabW grid_Board_Fill.tab5 grid_Board_Fill.bits5 (fun HT_ HW_ => ?_)
         generalize wr.drew = w28 at HO_1002 BK0 BK145 HK HB GG25 HQ29 hf25_0 hf25_1 hf25_2 hf25_3 hx25_0 hx25_1 hx25_2 hx25_3 hHeld ⊢
         refine pure_ (i := 0) (N := some 32) (v := ?_) (a' := ?_) m4_1 rfl rfl (any_of HT_.out q4_30) (fun _ _ _ h => h) (Or.inl ⟨by rfl, ?_⟩) ?_ ?_
         rotate_left; · intro w'; go_simp; with_reducible rfl
         rotate_left; · simp only [Act.put, setIfInBounds_toArray, set_cons_zero, set_cons_succ, i64_w, i32_w]; rfl
         refine pure_ (i := 1) (N := some 33) (v := ?_) (a' := ?_) m4_2 rfl rfl (any_of HT_.out q4_30) (fun _ _ _ h => h) (Or.inl ⟨by rfl, ?_⟩) ?_ ?_
         rotate_left; · intro w'; go_simp; with_reducible rfl
         rotate_left; · simp only [Act.put, setIfInBounds_toArray, set_cons_zero, set_cons_succ, i64_w, i32_w]; rfl
         refine pure_ (i := 2) (N := some 34) (v := ?_) (a' := ?_) m4_3 rfl rfl (any_of HT_.out q4_30) (fun _ _ _ h => h) (Or.inl ⟨by rfl, ?_⟩) ?_ ?_
         rotate_left; · intro w'; go_simp; with_reducible rfl
         rotate_left; · simp only [Act.put, setIfInBounds_toArray, set_cons_zero, set_cons_succ, i64_w, i32_w]; rfl
         refine pure_ (i := 4) (N := some 36) (v := ?_) (a' := ?_) m4_4 rfl rfl (any_of HT_.out q4_30) (fun _ _ _ h => h) (Or.inl ⟨by rfl, ?_⟩) ?_ ?_
         rotate_left; · intro w'; go_simp; with_reducible rfl
         rotate_left; · simp only [Act.put, setIfInBounds_toArray, set_cons_zero, set_cons_succ, i64_w, i32_w]; rfl
         refine pure_ (i := 5) (N := some 37) (v := ?_) (a' := ?_) m4_5 rfl rfl (any_of HT_.out q4_30) (fun _ _ _ h => h) (Or.inl ⟨by rfl, ?_⟩) ?_ ?_
         rotate_left; · intro w'; go_simp; with_reducible rfl
         rotate_left; · simp only [Act.put, setIfInBounds_toArray, set_cons_zero, set_cons_succ, i64_w, i32_w]; rfl
         refine pure_ (i := 6) (N := some 38) (v := ?_) (a' := ?_) m4_6 rfl rfl (any_of HT_.out q4_30) (fun _ _ _ h => h) (Or.inl ⟨by rfl, ?_⟩) ?_ ?_
         rotate_left; · intro w'; go_simp; with_reducible rfl
         rotate_left; · simp only [Act.put, setIfInBounds_toArray, set_cons_zero, set_cons_succ, i64_w, i32_w]; rfl
         refine pure_ (i := 7) (N := some 39) (v := ?_) (a' := ?_) m4_7 rfl rfl (any_of HT_.out q4_30) (fun _ _ _ h => h) (Or.inl ⟨by rfl, ?_⟩) ?_ ?_
         rotate_left; · intro w'; go_simp; with_reducible rfl
         rotate_left; · simp only [Act.put, setIfInBounds_toArray, set_cons_zero, set_cons_succ, i64_w, i32_w]; rfl
         refine pure_ (i := 10) (N := some 42) (v := ?_) (a' := ?_) m4_8 rfl rfl (any_of HT_.out q4_30) (fun _ _ _ h => h) (Or.inl ⟨by rfl, ?_⟩) ?_ ?_
         rotate_left; · intro w'; go_simp; with_reducible rfl
         rotate_left; · simp only [Act.put, setIfInBounds_toArray, set_cons_zero, set_cons_succ, i64_w, i32_w]; rfl
         refine take_ (i := 3) (N := some 35) (v := ?_) (a' := ?_) m4_9 rfl rfl (take_ofW HT_.out HW_.out q4_30) (fun _ _ _ h => h) (Or.inl ⟨by rfl, ?_⟩) hHeld ?_ ?_
         rotate_left; · rintro w' ⟨s0, s1, s2, s3, s4, s5, s6⟩; go_simp; with_reducible rfl
         rotate_left; · simp only [Act.put, setIfInBounds_toArray, set_cons_zero, set_cons_succ, i64_w, i32_w]; rfl
         refine take_ (i := 8) (N := some 40) (v := ?_) (a' := ?_) m4_10 rfl rfl (take_ofW HT_.out HW_.out q4_30) (fun _ _ _ h => h) (Or.inl ⟨by rfl, ?_⟩) hHeld ?_ ?_
         rotate_left; · rintro w' ⟨s0, s1, s2, s3, s4, s5, s6⟩; go_simp; with_reducible rfl
         rotate_left; · simp only [Act.put, setIfInBounds_toArray, set_cons_zero, set_cons_succ, i64_w, i32_w]; rfl
         refine pure_ (i := 9) (N := some 41) (v := ?_) (a' := ?_) m4_11 rfl rfl (any_of HT_.out q4_30) (fun _ _ _ h => h) (Or.inl ⟨by rfl, ?_⟩) ?_ ?_
         rotate_left; · intro w'; go_simp; with_reducible rfl
         rotate_left; · simp only [Act.put, setIfInBounds_toArray, set_cons_zero, set_cons_succ, i64_w, i32_w]; rfl
         refine pure_ (i := 11) (N := some 43) (v := ?_) (a' := ?_) m4_12 rfl rfl (any_of HT_.out q4_30) (fun _ _ _ h => h) (Or.inl ⟨by rfl, ?_⟩) ?_ ?_
         rotate_left; · intro w'; go_simp; with_reducible rfl
         rotate_left; · simp only [Act.put, setIfInBounds_toArray, set_cons_zero, set_cons_succ, i64_w, i32_w]; rfl
         refine take_ (i := 12) (N := some 44) (v := ?_) (a' := ?_) m4_13 rfl rfl (take_ofW HT_.out HW_.out q4_30) (fun _ _ _ h => h) (Or.inl ⟨by rfl, ?_⟩) hHeld ?_ ?_
         rotate_left; · rintro w' ⟨s0, s1, s2, s3, s4, s5, s6⟩; go_simp; with_reducible rfl
         rotate_left; · simp only [Act.put, setIfInBounds_toArray, set_cons_zero, set_cons_succ, i64_w, i32_w]; rfl
         refine pure_ (i := 13) (N := some 45) (v := ?_) (a' := ?_) m4_14 rfl rfl (any_of HT_.out q4_30) (fun _ _ _ h => h) (Or.inl ⟨by rfl, ?_⟩) ?_ ?_
         rotate_left; · intro w'; go_simp; with_reducible rfl
         rotate_left; · simp only [Act.put, setIfInBounds_toArray, set_cons_zero, set_cons_succ, i64_w, i32_w]; rfl
         refine last_ (i := 14) (N := none) m4_15 rfl rfl (one_of HT_.out q4_30) (by decide) (fun K hK => ?_)
         refine skip_ (w1 := ?_) (by rfl) rfl ?_ ?_
         rotate_left; · go_simp; rfl
         refine hK.out _ _ ?_
         clear hK K
         refine done_ (done_of HT_.out q4_30) ?_
         try go_wp2
         go_roundg k2
         case measure => have := HJ5.out; have := HK2.out; omega
         case rel => exact ⟨(wrap64 (x10_2 + 1)), (y153), (x146000_2), (x146001_2), (x146002_2), (x146003_2), (.slice (some ⟨go25, 0, none⟩) x1002_2.length co25), (by first | rfl | (simp; done) | (simp [*]; done)), H', ⟨by have := HJ5.out; have := HK2.out; omega⟩, ⟨by (with_reducible repeat (first | apply Kd.R_alloc | apply Kd.R_drewN | apply Kd.R_drew)); exact HQ29.out⟩, ⟨by (with_reducible repeat (first | refine blk_drewN ?_ _ | refine blk_drew ?_ | refine blk_alloc ?_ _)); refine blk_far ?_ q4_33 _; (with_reducible repeat (first | refine blk_drewN ?_ _ | refine blk_drew ?_ | refine blk_alloc ?_ _)); refine blk_far ?_ q4_33 _; (with_reducible repeat (first | refine blk_drewN ?_ _ | refine blk_drew ?_ | refine blk_alloc ?_ _)); refine blk_far ?_ q4_33 _; (with_reducible repeat (first | refine blk_drewN ?_ _ | refine blk_drew ?_ | refine blk_alloc ?_ _)); refine blk_far ?_ q4_33 _; (with_reducible repeat (first | refine blk_drewN ?_ _ | refine blk_drew ?_ | refine blk_alloc ?_ _)); exact BK0.out⟩, ⟨by (with_reducible repeat (first | refine blk_drewN ?_ _ | refine blk_drew ?_ | refine blk_alloc ?_ _)); refine blk_far ?_ q4_32 _; (with_reducible repeat (first | refine blk_drewN ?_ _ | refine blk_drew ?_ | refine blk_alloc ?_ _)); refine blk_far ?_ q4_32 _; (with_reducible repeat (first | refine blk_drewN ?_ _ | refine blk_drew ?_ | refine blk_alloc ?_ _)); refine blk_far ?_ q4_32 _; (with_reducible repeat (first | refine blk_drewN ?_ _ | refine blk_drew ?_ | refine blk_alloc ?_ _)); refine blk_far ?_ q4_32 _; (with_reducible repeat (first | refine blk_drewN ?_ _ | refine blk_drew ?_ | refine blk_alloc ?_ _)); exact BK145.out⟩, ⟨by repeat (first | (with_reducible first | exact HK.out | apply Kept.alloc | apply Kept.drewN | apply Kept.drew | refine Kept.setCell ?_ (Or.imp_left Or.inl HMgo25.out) _ | refine Kept.setCell ?_ (Or.imp_left Or.inl HMgo25.out) _ | refine Kept.setCell ?_ (Or.imp_left Or.inl HMgo25.out) _ | refine Kept.setCell ?_ (Or.imp_left Or.inl HMgo25.out) _ | refine Kept.setCell ?_ (.inl (.inr rfl)) _ | refine Kept.setCell ?_ (.inr GW145.out) _) | exact HK.out)⟩, ⟨by repeat (first | (with_reducible first | exact HB.out | apply below_alloc | apply pw_below_drewN | apply below_drew1 | refine below_set ?_ GB25.out | refine below_set ?_ GB25.out | refine below_set ?_ GB25.out | refine below_set ?_ GB25.out | refine below_set ?_ GE0.out | refine below_set ?_ GE145.out) | exact HB.out)⟩⟩
        ·rw [if_neg c24] at H
         exact absurd H (by simp)
       ·rw [if_neg c23] at H
        exact absurd H (by simp)
      ·rw [if_neg c21] at H
       have c21b0 : decide (x10_2 < (ji20)) = false := decide_eq_false c21
       clear c21
       simp only [Option.some.injEq, Prod.mk.injEq] at H
       obtain ⟨rfl, rfl, rfl⟩ := H
       have hnb30 := NB0_145.out
       have hnc30 := NB145_0.out
       have hcz31_0 : wr.cell? ⟨g, 0, none⟩ = some (.int .i64 x1000_5) := (blk_cell BK0.out 0).trans rfl
       have hcz31_1 : wr.cell? ⟨g, 1, none⟩ = some (.int .i64 x1001_5) := (blk_cell BK0.out 1).trans rfl
       have hcz31_2 : wr.cell? ⟨g, 2, none⟩ = some (u1002) := (blk_cell BK0.out 2).trans rfl
       have hfz31_0 := blk_frozen BK0.out 0
       have hfz31_1 := blk_frozen BK0.out 1
       have hfz31_2 := blk_frozen BK0.out 2
       go_wp2
       first | ((try simp only [Exit.inBlock, Exit.then]); refine bodyPost_ret (results_none rfl _ _ _) rfl ?_) | go_end0
       exact ⟨(u1002), by first | rfl | (simp [errW_none, errW_some, ptrW_true, ptrW_false] <;> rfl) | (simp only [← hji19, ← hji20]; first | rfl | (simp [errW_none, errW_some, ptrW_true, ptrW_false] <;> rfl)) | (simp [*, errW_none, errW_some, ptrW_true, ptrW_false] <;> rfl), by (with_reducible repeat (first | apply Kd.R_alloc | apply Kd.R_drewN | apply Kd.R_drew)); exact Kd.R_mono HO_1002.out (fun _ hk => hk.1), q4_18, by repeat (first | (with_reducible first | exact HB.out | apply below_alloc | apply pw_below_drewN | apply below_drew1 | refine below_set ?_ GE0.out | refine below_set ?_ GE145.out) | exact HB.out), by repeat (first | (with_reducible first | exact HK.out | apply Kept.alloc | apply Kept.drewN | apply Kept.drew | refine Kept.setCell ?_ (.inl (.inr rfl)) _ | refine Kept.setCell ?_ (.inr GW145.out) _) | exact HK.out)⟩

/-! ### grid_Board_region: function 93 -/
def grid_Board_region.f (k : Nat) (a0_0 : Int) (a0_1 : Int) (l0_2 : List (S53)) (a1 : Int) (a2 : Int) (a3 : Int) (a4_0 : Int) (a4_1 : Int) (a4_2 : Int) (a4_3 : Int) : Option (Bool × Int × Int × (List (S53))) := if a1 ≥ 0 then (if a2 < a0_0 then (if a1 ≤ a2 then (if a3 > 0 then ((cell_Right.f k a4_0 a4_1 a4_2 a4_3).bind fun t155 => (some (t155, a0_0, a0_1, l0_2))) else (some (false, a0_0, a0_1, l0_2))) else (some (false, a0_0, a0_1, l0_2))) else (some (false, a0_0, a0_1, l0_2))) else (some (false, a0_0, a0_1, l0_2))
theorem grid_Board_region.mono : ∀ a0 a1 a2 a3 a4 a5 a6 a7 a8 a9 k, LeO (grid_Board_region.f k a0 a1 a2 a3 a4 a5 a6 a7 a8 a9) (grid_Board_region.f (k + 1) a0 a1 a2 a3 a4 a5 a6 a7 a8 a9) := by
 intro a0 a1 a2 a3 a4 a5 a6 a7 a8 a9 k
 unfold grid_Board_region.f
 repeat' first
   | (with_reducible exact cell_Right.mono _ _ _ _ _)
   | (with_reducible exact LeO.refl _)
   | (with_reducible exact LeO.none _)
   | (with_reducible refine LeO.ite ?_ ?_)
   | (with_reducible refine LeO.bind ?_ (fun _ => ?_))
   | exact cell_Right.mono _ _ _ _ _
   | exact LeO.none _
   | refine LeO.ite ?_ ?_
   | refine LeO.bind ?_ (fun _ => ?_)
set_option maxHeartbeats 8000000 in
set_option maxRecDepth 100000 in
theorem grid_Board_region.calls (k : Nat) (g : Nat) (a0_0 : Int) (a0_1 : Int) (P0_2_ : Nat → Prop) (u9000_ : Value) (l0_2 : List (S53)) (a1 : Int) (a2 : Int) (a3 : Int) (a4_0 : Int) (a4_1 : Int) (a4_2 : Int) (a4_3 : Int) (r1 : Bool) (r2 : Int) (r3 : Int) (r4 : List (S53)) (w0 w : World) (hb : w.heap[g]? = some (.cells #[.int .i64 a0_0, .int .i64 a0_1, u9000_] 112 (0, 0))) (hg : w0.heap.size ≤ g) (hB : Below w0.heap.size w0 w) (ho0_2 : Kd.R k53 53 w w0.heap.size P0_2_ u9000_ l0_2) (h : grid_Board_region.f k a0_0 a0_1 l0_2 a1 a2 a3 a4_0 a4_1 a4_2 a4_3 = some (r1, r2, r3, r4)) :
  Calls Try.prog 93 #[.pointer (some ⟨g, 0, none⟩), .int .i64 a1, .int .i64 a2, .int .i64 a3, .agg #[.int .i32 a4_0, .int .i64 a4_1, .int .i64 a4_2, .int .i64 a4_3]] w fun e w' => ∃ v3_ : Value, Aside0 (e = .returned (.bool r1) ∧ Kd.R k53 53 w' w0.heap.size (fun k_ => (P0_2_ k_ ∨ w.heap.size ≤ k_)) v3_ r4 ∧ w'.heap[g]? = some (.cells #[.int .i64 r2, .int .i64 r3, v3_] 112 (0, 0)) ∧ Below w0.heap.size w0 w' ∧ Kept w w' (fun k_ => (P0_2_ k_) ∨ k_ = g)) := by
 have hu53 := Try.underlying53
 have HO0_2 := A4_ (show Kd.R k53 53 w w0.heap.size (fun k_ => (P0_2_ k_ ∨ w.heap.size ≤ k_)) u9000_ l0_2 from Kd.R_mono ho0_2 (fun k_ hk => (.inl hk)))
 have HK := A4_ (Kept.refl w (fun k_ => (P0_2_ k_) ∨ k_ = g))
 have BK0 := A4_ hb
 have GE0 := A4_ hg
 clear hb hg
 have HW0 := A4_ hB.size
 have HB := A4_ hB
 clear hB
 have H : (if a1 ≥ 0 then (if a2 < a0_0 then (if a1 ≤ a2 then (if a3 > 0 then ((cell_Right.f k a4_0 a4_1 a4_2 a4_3).bind fun t155 => (some (t155, a0_0, a0_1, l0_2))) else (some (false, a0_0, a0_1, l0_2))) else (some (false, a0_0, a0_1, l0_2))) else (some (false, a0_0, a0_1, l0_2))) else (some (false, a0_0, a0_1, l0_2))) = some (r1, r2, r3, r4) := h
 clear h
 by_cases c6 : a1 ≥ 0
 ·rw [if_pos c6] at H
  have c6b0 : decide (0 ≤ a1) = true := decide_eq_true c6
  clear c6
  by_cases c7 : a2 < a0_0
  ·rw [if_pos c7] at H
   have c7b0 : decide (a2 < a0_0) = true := decide_eq_true c7
   clear c7
   by_cases c8 : a1 ≤ a2
   ·rw [if_pos c8] at H
    have c8b0 : decide (a1 ≤ a2) = true := decide_eq_true c8
    clear c8
    by_cases c9 : a3 > 0
    ·rw [if_pos c9] at H
     have c9b0 : decide (0 < a3) = true := decide_eq_true c9
     clear c9
     replace H := Option.bind_eq_some_iff.mp H
     obtain ⟨t155, A100, H⟩ := H
     replace H : (some (t155, a0_0, a0_1, l0_2)) = some (r1, r2, r3, r4) := H
     have A10 := A4_ A100
     clear A100
     simp only [Option.some.injEq, Prod.mk.injEq] at H
     obtain ⟨rfl, rfl, rfl, rfl⟩ := H
     go_enter Try.func93, Try.ntmps93
     go_wp2_with (first | ((with_reducible refine gate_dst (N := 9) rfl ?_); refine box_event ?hg (N := 9) ?hd (cs := #[.int .i32 a4_0, .int .i64 a4_1, .int .i64 a4_2, .int .i64 a4_3]) (t := 53) ?hr ?_; (case hd => rfl); (case hg => rfl); (case hr => first | (go_simp; done) | (go_simp; rfl)); intro gb154 hg w11 hbox hb; have n0_ := A4_ (Kd.R_below (Kd.R_elderB q4_22 gb154 (Nat.le_of_eq hg.symm)) hb); have n1_ := A4_ (blk_below (g := g) (o := .cells #[.int .i64 a0_0, .int .i64 a0_1, u9000_] 112 (0, 0)) q4_18 hb); have n2_ := A4_ (Kept.below (S := (fun k_ => (P0_2_ k_) ∨ k_ = g)) q4_21 hb); have n3_ := A4_ (below_step q4_19 hb); have n4_ := A4_ (hbox); have n5_ := A4_ ((by rw [hg]; exact q4_20 : w.heap.size ≤ gb154)); have n6_ := A4_ ((by rw [hg]; exact (below_size q4_19) : w0.heap.size ≤ gb154)); have n7_ := A4_ ((by rw [hg]; exact Nat.ne_of_lt (blk_lt (g := g) (o := .cells #[.int .i64 a0_0, .int .i64 a0_1, u9000_] 112 (0, 0)) q4_18) : g ≠ gb154)); have n8_ := A4_ ((by rw [hg]; exact Nat.ne_of_gt (blk_lt (g := g) (o := .cells #[.int .i64 a0_0, .int .i64 a0_1, u9000_] 112 (0, 0)) q4_18) : gb154 ≠ g)); clear HO0_2 BK0 HK HB; have HO0_2 := n0_; have BK0 := n1_; have HK := n2_; have HB := n3_; have BK154 := n4_; have GW154 := n5_; have GE154 := n6_; have NB0_154 := n7_; have NB154_0 := n8_; clear n0_ n1_ n2_ n3_ n4_ n5_ n6_ n7_ n8_; clear hb hbox hg; have hnb12 := NB0_154.out; have hnc12 := NB154_0.out; have hcz13_0 : w11.cell? ⟨g, 0, none⟩ = some (.int .i64 a0_0) := (blk_cell BK0.out 0).trans rfl; have hcz13_1 : w11.cell? ⟨g, 1, none⟩ = some (.int .i64 a0_1) := (blk_cell BK0.out 1).trans rfl; have hcz13_2 : w11.cell? ⟨g, 2, none⟩ = some (u9000_) := (blk_cell BK0.out 2).trans rfl; have hfz13_0 := blk_frozen BK0.out 0; have hfz13_1 := blk_frozen BK0.out 1; have hfz13_2 := blk_frozen BK0.out 2; have hcz14_0 : w11.cell? ⟨gb154, 0, none⟩ = some (.int .i32 a4_0) := (blk_cell BK154.out 0).trans rfl; have hcz14_1 : w11.cell? ⟨gb154, 1, none⟩ = some (.int .i64 a4_1) := (blk_cell BK154.out 1).trans rfl; have hcz14_2 : w11.cell? ⟨gb154, 2, none⟩ = some (.int .i64 a4_2) := (blk_cell BK154.out 2).trans rfl; have hcz14_3 : w11.cell? ⟨gb154, 3, none⟩ = some (.int .i64 a4_3) := (blk_cell BK154.out 3).trans rfl; have hfz14_0 := blk_frozen BK154.out 0; have hfz14_1 := blk_frozen BK154.out 1; have hfz14_2 := blk_frozen BK154.out 2; have hfz14_3 := blk_frozen BK154.out 3) | (go_at_call 35; (with_reducible refine (cell_Right.calls k a4_0 a4_1 a4_2 a4_3 t155 _ A10.out).mono ?_); rintro e w15 ⟨rfl, hb⟩; have n0_ := A4_ (Kd.R_below q4_22 hb); have n1_ := A4_ (blk_below (g := g) (o := .cells #[.int .i64 a0_0, .int .i64 a0_1, u9000_] 112 (0, 0)) q4_18 hb); have n2_ := A4_ (blk_below (g := gb154) (o := .cells #[.int .i32 a4_0, .int .i64 a4_1, .int .i64 a4_2, .int .i64 a4_3] 53 (0, 0)) (by (with_reducible repeat (first | refine blk_drewN ?_ _ | refine blk_drew ?_ | refine blk_alloc ?_ _)); exact BK154.out) hb); have n3_ := A4_ (Kept.below (S := (fun k_ => (P0_2_ k_) ∨ k_ = g)) (by repeat (first | (with_reducible first | exact HK.out | apply Kept.alloc | apply Kept.drewN | apply Kept.drew | refine Kept.setCell ?_ (.inl (.inr rfl)) _ | refine Kept.setCell ?_ (.inr GW154.out) _) | exact HK.out)) hb); have n4_ := A4_ (below_step (by repeat (first | (with_reducible first | exact HB.out | apply below_alloc | apply pw_below_drewN | apply below_drew1 | refine below_set ?_ GE0.out | refine below_set ?_ GE154.out) | exact HB.out)) hb); clear HO0_2 BK0 BK154 HK HB; have HO0_2 := n0_; have BK0 := n1_; have BK154 := n2_; have HK := n3_; have HB := n4_; clear n0_ n1_ n2_ n3_ n4_; (try clear hb); (try clear hb2); (try clear hk); (try clear hi)))
     go_ret
     exact ⟨(u9000_), by first | rfl | (simp [errW_none, errW_some, ptrW_true, ptrW_false] <;> rfl) | (simp [*, errW_none, errW_some, ptrW_true, ptrW_false] <;> rfl), by (with_reducible repeat (first | apply Kd.R_alloc | apply Kd.R_drewN | apply Kd.R_drew)); exact Kd.R_mono HO0_2.out (fun _ hk => hk.1), q4_18, by repeat (first | (with_reducible first | exact HB.out | apply below_alloc | apply pw_below_drewN | apply below_drew1 | refine below_set ?_ GE0.out | refine below_set ?_ GE154.out) | exact HB.out), by repeat (first | (with_reducible first | exact HK.out | apply Kept.alloc | apply Kept.drewN | apply Kept.drew | refine Kept.setCell ?_ (.inl (.inr rfl)) _ | refine Kept.setCell ?_ (.inr GW154.out) _) | exact HK.out)⟩
    ·rw [if_neg c9] at H
     have c9b0 : decide (0 < a3) = false := decide_eq_false c9
     clear c9
     simp only [Option.some.injEq, Prod.mk.injEq] at H
     obtain ⟨rfl, rfl, rfl, rfl⟩ := H
     go_enter Try.func93, Try.ntmps93
     go_wp2_with (first | ((with_reducible refine gate_dst (N := 9) rfl ?_); refine box_event ?hg (N := 9) ?hd (cs := #[.int .i32 a4_0, .int .i64 a4_1, .int .i64 a4_2, .int .i64 a4_3]) (t := 53) ?hr ?_; (case hd => rfl); (case hg => rfl); (case hr => first | (go_simp; done) | (go_simp; rfl)); intro gb154 hg w16 hbox hb; have n0_ := A4_ (Kd.R_below (Kd.R_elderB q4_22 gb154 (Nat.le_of_eq hg.symm)) hb); have n1_ := A4_ (blk_below (g := g) (o := .cells #[.int .i64 a0_0, .int .i64 a0_1, u9000_] 112 (0, 0)) q4_18 hb); have n2_ := A4_ (Kept.below (S := (fun k_ => (P0_2_ k_) ∨ k_ = g)) q4_21 hb); have n3_ := A4_ (below_step q4_19 hb); have n4_ := A4_ (hbox); have n5_ := A4_ ((by rw [hg]; exact q4_20 : w.heap.size ≤ gb154)); have n6_ := A4_ ((by rw [hg]; exact (below_size q4_19) : w0.heap.size ≤ gb154)); have n7_ := A4_ ((by rw [hg]; exact Nat.ne_of_lt (blk_lt (g := g) (o := .cells #[.int .i64 a0_0, .int .i64 a0_1, u9000_] 112 (0, 0)) q4_18) : g ≠ gb154)); have n8_ := A4_ ((by rw [hg]; exact Nat.ne_of_gt (blk_lt (g := g) (o := .cells #[.int .i64 a0_0, .int .i64 a0_1, u9000_] 112 (0, 0)) q4_18) : gb154 ≠ g)); clear HO0_2 BK0 HK HB; have HO0_2 := n0_; have BK0 := n1_; have HK := n2_; have HB := n3_; have BK154 := n4_; have GW154 := n5_; have GE154 := n6_; have NB0_154 := n7_; have NB154_0 := n8_; clear n0_ n1_ n2_ n3_ n4_ n5_ n6_ n7_ n8_; clear hb hbox hg; have hnb17 := NB0_154.out; have hnc17 := NB154_0.out; have hcz18_0 : w16.cell? ⟨g, 0, none⟩ = some (.int .i64 a0_0) := (blk_cell BK0.out 0).trans rfl; have hcz18_1 : w16.cell? ⟨g, 1, none⟩ = some (.int .i64 a0_1) := (blk_cell BK0.out 1).trans rfl; have hcz18_2 : w16.cell? ⟨g, 2, none⟩ = some (u9000_) := (blk_cell BK0.out 2).trans rfl; have hfz18_0 := blk_frozen BK0.out 0; have hfz18_1 := blk_frozen BK0.out 1; have hfz18_2 := blk_frozen BK0.out 2))
     go_ret
     exact ⟨(u9000_), by first | rfl | (simp [errW_none, errW_some, ptrW_true, ptrW_false] <;> rfl) | (simp [*, errW_none, errW_some, ptrW_true, ptrW_false] <;> rfl), by (with_reducible repeat (first | apply Kd.R_alloc | apply Kd.R_drewN | apply Kd.R_drew)); exact Kd.R_mono HO0_2.out (fun _ hk => hk.1), q4_18, by repeat (first | (with_reducible first | exact HB.out | apply below_alloc | apply pw_below_drewN | apply below_drew1 | refine below_set ?_ GE0.out | refine below_set ?_ GE154.out) | exact HB.out), by repeat (first | (with_reducible first | exact HK.out | apply Kept.alloc | apply Kept.drewN | apply Kept.drew | refine Kept.setCell ?_ (.inl (.inr rfl)) _ | refine Kept.setCell ?_ (.inr GW154.out) _) | exact HK.out)⟩
   ·rw [if_neg c8] at H
    have c8b0 : decide (a1 ≤ a2) = false := decide_eq_false c8
    clear c8
    simp only [Option.some.injEq, Prod.mk.injEq] at H
    obtain ⟨rfl, rfl, rfl, rfl⟩ := H
    go_enter Try.func93, Try.ntmps93
    go_wp2_with (first | ((with_reducible refine gate_dst (N := 9) rfl ?_); refine box_event ?hg (N := 9) ?hd (cs := #[.int .i32 a4_0, .int .i64 a4_1, .int .i64 a4_2, .int .i64 a4_3]) (t := 53) ?hr ?_; (case hd => rfl); (case hg => rfl); (case hr => first | (go_simp; done) | (go_simp; rfl)); intro gb154 hg w19 hbox hb; have n0_ := A4_ (Kd.R_below (Kd.R_elderB q4_22 gb154 (Nat.le_of_eq hg.symm)) hb); have n1_ := A4_ (blk_below (g := g) (o := .cells #[.int .i64 a0_0, .int .i64 a0_1, u9000_] 112 (0, 0)) q4_18 hb); have n2_ := A4_ (Kept.below (S := (fun k_ => (P0_2_ k_) ∨ k_ = g)) q4_21 hb); have n3_ := A4_ (below_step q4_19 hb); have n4_ := A4_ (hbox); have n5_ := A4_ ((by rw [hg]; exact q4_20 : w.heap.size ≤ gb154)); have n6_ := A4_ ((by rw [hg]; exact (below_size q4_19) : w0.heap.size ≤ gb154)); have n7_ := A4_ ((by rw [hg]; exact Nat.ne_of_lt (blk_lt (g := g) (o := .cells #[.int .i64 a0_0, .int .i64 a0_1, u9000_] 112 (0, 0)) q4_18) : g ≠ gb154)); have n8_ := A4_ ((by rw [hg]; exact Nat.ne_of_gt (blk_lt (g := g) (o := .cells #[.int .i64 a0_0, .int .i64 a0_1, u9000_] 112 (0, 0)) q4_18) : gb154 ≠ g)); clear HO0_2 BK0 HK HB; have HO0_2 := n0_; have BK0 := n1_; have HK := n2_; have HB := n3_; have BK154 := n4_; have GW154 := n5_; have GE154 := n6_; have NB0_154 := n7_; have NB154_0 := n8_; clear n0_ n1_ n2_ n3_ n4_ n5_ n6_ n7_ n8_; clear hb hbox hg; have hnb20 := NB0_154.out; have hnc20 := NB154_0.out; have hcz21_0 : w19.cell? ⟨g, 0, none⟩ = some (.int .i64 a0_0) := (blk_cell BK0.out 0).trans rfl; have hcz21_1 : w19.cell? ⟨g, 1, none⟩ = some (.int .i64 a0_1) := (blk_cell BK0.out 1).trans rfl; have hcz21_2 : w19.cell? ⟨g, 2, none⟩ = some (u9000_) := (blk_cell BK0.out 2).trans rfl; have hfz21_0 := blk_frozen BK0.out 0; have hfz21_1 := blk_frozen BK0.out 1; have hfz21_2 := blk_frozen BK0.out 2))
    go_ret
    exact ⟨(u9000_), by first | rfl | (simp [errW_none, errW_some, ptrW_true, ptrW_false] <;> rfl) | (simp [*, errW_none, errW_some, ptrW_true, ptrW_false] <;> rfl), by (with_reducible repeat (first | apply Kd.R_alloc | apply Kd.R_drewN | apply Kd.R_drew)); exact Kd.R_mono HO0_2.out (fun _ hk => hk.1), q4_18, by repeat (first | (with_reducible first | exact HB.out | apply below_alloc | apply pw_below_drewN | apply below_drew1 | refine below_set ?_ GE0.out | refine below_set ?_ GE154.out) | exact HB.out), by repeat (first | (with_reducible first | exact HK.out | apply Kept.alloc | apply Kept.drewN | apply Kept.drew | refine Kept.setCell ?_ (.inl (.inr rfl)) _ | refine Kept.setCell ?_ (.inr GW154.out) _) | exact HK.out)⟩
  ·rw [if_neg c7] at H
   have c7b0 : decide (a2 < a0_0) = false := decide_eq_false c7
   clear c7
   simp only [Option.some.injEq, Prod.mk.injEq] at H
   obtain ⟨rfl, rfl, rfl, rfl⟩ := H
   go_enter Try.func93, Try.ntmps93
   go_wp2_with (first | ((with_reducible refine gate_dst (N := 9) rfl ?_); refine box_event ?hg (N := 9) ?hd (cs := #[.int .i32 a4_0, .int .i64 a4_1, .int .i64 a4_2, .int .i64 a4_3]) (t := 53) ?hr ?_; (case hd => rfl); (case hg => rfl); (case hr => first | (go_simp; done) | (go_simp; rfl)); intro gb154 hg w22 hbox hb; have n0_ := A4_ (Kd.R_below (Kd.R_elderB q4_22 gb154 (Nat.le_of_eq hg.symm)) hb); have n1_ := A4_ (blk_below (g := g) (o := .cells #[.int .i64 a0_0, .int .i64 a0_1, u9000_] 112 (0, 0)) q4_18 hb); have n2_ := A4_ (Kept.below (S := (fun k_ => (P0_2_ k_) ∨ k_ = g)) q4_21 hb); have n3_ := A4_ (below_step q4_19 hb); have n4_ := A4_ (hbox); have n5_ := A4_ ((by rw [hg]; exact q4_20 : w.heap.size ≤ gb154)); have n6_ := A4_ ((by rw [hg]; exact (below_size q4_19) : w0.heap.size ≤ gb154)); have n7_ := A4_ ((by rw [hg]; exact Nat.ne_of_lt (blk_lt (g := g) (o := .cells #[.int .i64 a0_0, .int .i64 a0_1, u9000_] 112 (0, 0)) q4_18) : g ≠ gb154)); have n8_ := A4_ ((by rw [hg]; exact Nat.ne_of_gt (blk_lt (g := g) (o := .cells #[.int .i64 a0_0, .int .i64 a0_1, u9000_] 112 (0, 0)) q4_18) : gb154 ≠ g)); clear HO0_2 BK0 HK HB; have HO0_2 := n0_; have BK0 := n1_; have HK := n2_; have HB := n3_; have BK154 := n4_; have GW154 := n5_; have GE154 := n6_; have NB0_154 := n7_; have NB154_0 := n8_; clear n0_ n1_ n2_ n3_ n4_ n5_ n6_ n7_ n8_; clear hb hbox hg; have hnb23 := NB0_154.out; have hnc23 := NB154_0.out; have hcz24_0 : w22.cell? ⟨g, 0, none⟩ = some (.int .i64 a0_0) := (blk_cell BK0.out 0).trans rfl; have hcz24_1 : w22.cell? ⟨g, 1, none⟩ = some (.int .i64 a0_1) := (blk_cell BK0.out 1).trans rfl; have hcz24_2 : w22.cell? ⟨g, 2, none⟩ = some (u9000_) := (blk_cell BK0.out 2).trans rfl; have hfz24_0 := blk_frozen BK0.out 0; have hfz24_1 := blk_frozen BK0.out 1; have hfz24_2 := blk_frozen BK0.out 2))
   go_ret
   exact ⟨(u9000_), by first | rfl | (simp [errW_none, errW_some, ptrW_true, ptrW_false] <;> rfl) | (simp [*, errW_none, errW_some, ptrW_true, ptrW_false] <;> rfl), by (with_reducible repeat (first | apply Kd.R_alloc | apply Kd.R_drewN | apply Kd.R_drew)); exact Kd.R_mono HO0_2.out (fun _ hk => hk.1), q4_18, by repeat (first | (with_reducible first | exact HB.out | apply below_alloc | apply pw_below_drewN | apply below_drew1 | refine below_set ?_ GE0.out | refine below_set ?_ GE154.out) | exact HB.out), by repeat (first | (with_reducible first | exact HK.out | apply Kept.alloc | apply Kept.drewN | apply Kept.drew | refine Kept.setCell ?_ (.inl (.inr rfl)) _ | refine Kept.setCell ?_ (.inr GW154.out) _) | exact HK.out)⟩
 ·rw [if_neg c6] at H
  have c6b0 : decide (0 ≤ a1) = false := decide_eq_false c6
  clear c6
  simp only [Option.some.injEq, Prod.mk.injEq] at H
  obtain ⟨rfl, rfl, rfl, rfl⟩ := H
  go_enter Try.func93, Try.ntmps93
  go_wp2_with (first | ((with_reducible refine gate_dst (N := 9) rfl ?_); refine box_event ?hg (N := 9) ?hd (cs := #[.int .i32 a4_0, .int .i64 a4_1, .int .i64 a4_2, .int .i64 a4_3]) (t := 53) ?hr ?_; (case hd => rfl); (case hg => rfl); (case hr => first | (go_simp; done) | (go_simp; rfl)); intro gb154 hg w25 hbox hb; have n0_ := A4_ (Kd.R_below (Kd.R_elderB q4_22 gb154 (Nat.le_of_eq hg.symm)) hb); have n1_ := A4_ (blk_below (g := g) (o := .cells #[.int .i64 a0_0, .int .i64 a0_1, u9000_] 112 (0, 0)) q4_18 hb); have n2_ := A4_ (Kept.below (S := (fun k_ => (P0_2_ k_) ∨ k_ = g)) q4_21 hb); have n3_ := A4_ (below_step q4_19 hb); have n4_ := A4_ (hbox); have n5_ := A4_ ((by rw [hg]; exact q4_20 : w.heap.size ≤ gb154)); have n6_ := A4_ ((by rw [hg]; exact (below_size q4_19) : w0.heap.size ≤ gb154)); have n7_ := A4_ ((by rw [hg]; exact Nat.ne_of_lt (blk_lt (g := g) (o := .cells #[.int .i64 a0_0, .int .i64 a0_1, u9000_] 112 (0, 0)) q4_18) : g ≠ gb154)); have n8_ := A4_ ((by rw [hg]; exact Nat.ne_of_gt (blk_lt (g := g) (o := .cells #[.int .i64 a0_0, .int .i64 a0_1, u9000_] 112 (0, 0)) q4_18) : gb154 ≠ g)); clear HO0_2 BK0 HK HB; have HO0_2 := n0_; have BK0 := n1_; have HK := n2_; have HB := n3_; have BK154 := n4_; have GW154 := n5_; have GE154 := n6_; have NB0_154 := n7_; have NB154_0 := n8_; clear n0_ n1_ n2_ n3_ n4_ n5_ n6_ n7_ n8_; clear hb hbox hg))
  go_ret
  exact ⟨(u9000_), by first | rfl | (simp [errW_none, errW_some, ptrW_true, ptrW_false] <;> rfl) | (simp [*, errW_none, errW_some, ptrW_true, ptrW_false] <;> rfl), by (with_reducible repeat (first | apply Kd.R_alloc | apply Kd.R_drewN | apply Kd.R_drew)); exact Kd.R_mono HO0_2.out (fun _ hk => hk.1), q4_18, by repeat (first | (with_reducible first | exact HB.out | apply below_alloc | apply pw_below_drewN | apply below_drew1 | refine below_set ?_ GE0.out | refine below_set ?_ GE154.out) | exact HB.out), by repeat (first | (with_reducible first | exact HK.out | apply Kept.alloc | apply Kept.drewN | apply Kept.drew | refine Kept.setCell ?_ (.inl (.inr rfl)) _ | refine Kept.setCell ?_ (.inr GW154.out) _) | exact HK.out)⟩

end Go.Proofs.Ytkckojgjkmcokaa.PF10
