/- By a program of this session (wip/tool/pp.py): plain Lean functions of the Go functions that this family of laws uses, the walks that the Go code comes to their answers, and the row of the law. No condition beside those that the row itself gives. -/
import Derived.Test.YtdbfclfglpbpmaaPF25Fx0
import Derived.Test.YtdbfclfglpbpmaaPF25Fx6
import Derived.Test.YtdbfclfglpbpmaaPF25Fx7
namespace Go.Proofs.Ytdbfclfglpbpmaa.PF25F
open Go.RowKit Go.Proofs.YtdbfclfglpbpmaaW.Hand Go.Proofs.YtdbfclfglpbpmaaW.PrintWords Go.Proofs.YtdbfclfglpbpmaaW.PrintLast Go.Proofs.YtdbfclfglpbpmaaW.PrintMore
attribute [local go_sem] max2_int min2_int max_two min_two max_three min_three max_four min_four   -- for this text's walks alone
set_option linter.unusedVariables false
set_option linter.unusedSimpArgs false

/-! ### batonref02_Sum: function 111 -/
mutual
def batonref02_Sum.l0 : Nat → List Int → List Int → Int → Option (List Int)
 | 0, _, _, _ => none
 | k + 1, x3, x4, x5 => if x5 < (x3.length : Int) then (if 0 ≤ x5 then (if x5 ≤ (wrap64 (x5 + 64)) then (if (wrap64 (x5 + 64)) ≤ (x3.length : Int) then ((batonref02_Rounds.f k x4 ((x3.take ((wrap64 (x5 + 64)) : Int).toNat).drop (x5 : Int).toNat)).bind fun t270 => (batonref02_Sum.l0 k x3 t270 (wrap64 (x5 + 64)))) else (none)) else (none)) else (none)) else (batonref02_Sum.l1 k x4 ([] : List Int) 0)
def batonref02_Sum.l1 : Nat → List Int → List Int → Int → Option (List Int)
 | 0, _, _, _ => none
 | k + 1, x4, x6, x7 => if x7 < 8 then (if 0 ≤ x7 then (if x7 < (x4.length : Int) then ((some (([((Int.tdiv (rd x4 x7) 16777216) % 4294967296) % 256, ((Int.tdiv (rd x4 x7) 65536) % 4294967296) % 256, ((Int.tdiv (rd x4 x7) 256) % 4294967296) % 256, (Int.tmod (rd x4 x7) 256) % 256] : List Int) : List Int)).bind fun y274 => (if x6.length + y274.length < 140737488355328 then (batonref02_Sum.l1 k x4 (x6 ++ y274) (wrap64 (x7 + 1))) else (none))) else (none)) else (none)) else (some x6)
end
def batonref02_Sum.f (k : Nat) (l0 : List Int) : Option (List Int) := (some (([] : List Int) : List Int)).bind fun y251 => (if y251.length + l0.length < 140737488355328 then ((some (y251 ++ l0 : List Int)).bind fun y254 => ((batonref02_Pad.f k (l0.length : Int)).bind fun t257 => (if y254.length + t257.length < 140737488355328 then ((batonref02_First.f).bind fun t263 => (batonref02_Sum.l0 k (y254 ++ t257) t263 0)) else (none)))) else (none))
theorem batonref02_Sum.mono_l : ∀ k, (∀ y0 y1 y2, LeO (batonref02_Sum.l0 k y0 y1 y2) (batonref02_Sum.l0 (k + 1) y0 y1 y2)) ∧ (∀ y0 y1 y2, LeO (batonref02_Sum.l1 k y0 y1 y2) (batonref02_Sum.l1 (k + 1) y0 y1 y2))
 | 0 => ⟨fun _ _ _ r h => by simp [batonref02_Sum.l0] at h, fun _ _ _ r h => by simp [batonref02_Sum.l1] at h⟩
 | k + 1 => by
  obtain ⟨ih0, ih1⟩ := batonref02_Sum.mono_l k
  refine ⟨?_, ?_⟩
  ·intro y0 y1 y2
   unfold batonref02_Sum.l0
   repeat' first
   | (with_reducible exact ih0 _ _ _)
   | (with_reducible exact ih1 _ _ _)
   | (with_reducible exact batonref02_Pad.mono _ _)
   | (with_reducible exact batonref02_Rounds.mono _ _ _)
   | (with_reducible exact LeO.refl _)
   | (with_reducible exact LeO.none _)
   | (with_reducible refine LeO.ite ?_ ?_)
   | (with_reducible refine LeO.bind ?_ (fun _ => ?_))
   | exact ih0 _ _ _
   | exact ih1 _ _ _
   | exact batonref02_Pad.mono _ _
   | exact batonref02_Rounds.mono _ _ _
   | exact LeO.none _
   | refine LeO.ite ?_ ?_
   | refine LeO.bind ?_ (fun _ => ?_)
  ·intro y0 y1 y2
   unfold batonref02_Sum.l1
   repeat' first
   | (with_reducible exact ih0 _ _ _)
   | (with_reducible exact ih1 _ _ _)
   | (with_reducible exact batonref02_Pad.mono _ _)
   | (with_reducible exact batonref02_Rounds.mono _ _ _)
   | (with_reducible exact LeO.refl _)
   | (with_reducible exact LeO.none _)
   | (with_reducible refine LeO.ite ?_ ?_)
   | (with_reducible refine LeO.bind ?_ (fun _ => ?_))
   | exact ih0 _ _ _
   | exact ih1 _ _ _
   | exact batonref02_Pad.mono _ _
   | exact batonref02_Rounds.mono _ _ _
   | exact LeO.none _
   | refine LeO.ite ?_ ?_
   | refine LeO.bind ?_ (fun _ => ?_)
theorem batonref02_Sum.mono : ∀ a0 k, LeO (batonref02_Sum.f k a0) (batonref02_Sum.f (k + 1) a0) := by
 intro a0 k
 obtain ⟨ih0, ih1⟩ := batonref02_Sum.mono_l k
 unfold batonref02_Sum.f
 repeat' first
   | (with_reducible exact ih0 _ _ _)
   | (with_reducible exact ih1 _ _ _)
   | (with_reducible exact batonref02_Pad.mono _ _)
   | (with_reducible exact batonref02_Rounds.mono _ _ _)
   | (with_reducible exact LeO.refl _)
   | (with_reducible exact LeO.none _)
   | (with_reducible refine LeO.ite ?_ ?_)
   | (with_reducible refine LeO.bind ?_ (fun _ => ?_))
   | exact ih0 _ _ _
   | exact ih1 _ _ _
   | exact batonref02_Pad.mono _ _
   | exact batonref02_Rounds.mono _ _ _
   | exact LeO.none _
   | refine LeO.ite ?_ ?_
   | refine LeO.bind ?_ (fun _ => ?_)
theorem A8_ {p : Prop} (h : p) : Aside0 p := ⟨h⟩
theorem q8_2 {p : Prop} (h : p := by repeat (first | (with_reducible first | exact HB.out | apply below_alloc | apply pw_below_drewN | apply below_drew1) | exact HB.out)) : p := h
theorem q8_3 {p : Prop} (h : p := by first | exact HK.out.1 | exact (show Kept w _ (fun k_ => P0_ k_) from by repeat (first | (with_reducible first | exact HK.out | apply Kept.alloc | apply Kept.drewN | apply Kept.drew) | exact HK.out)).1) : p := h
theorem q8_4 {p : Prop} (h : p := by (with_reducible repeat (first | apply Kd.R_alloc | apply Kd.R_drewN | apply Kd.R_drew)); exact HO_5.out) : p := h
theorem q8_5 {p : Prop} (h : p := by repeat (first | (with_reducible first | exact HK.out | apply Kept.alloc | apply Kept.drewN | apply Kept.drew) | exact HK.out)) : p := h
theorem q8_6 {p : Prop} (h : p := by (with_reducible repeat (first | apply Kd.R_alloc | apply Kd.R_drewN | apply Kd.R_drew)); exact HO_0.out) : p := h
theorem q8_7 {p : Prop} (h : p := by (try simp only [List.map_toArray, List.map_cons, List.map_nil]); first | done | rfl | (simp only [List.length_drop, List.length_take]; rfl)) : p := h
theorem q8_8 {p : Prop} (h : p := by first | rfl | (simp; done) | (simp [*]; done)) : p := h
theorem q8_9 {p : Prop} (h : p := by (with_reducible repeat (first | apply Kd.R_alloc | apply Kd.R_drewN | apply Kd.R_drew)); exact HO_6.out) : p := h
theorem q8_10 {p : Prop} (h : p := by first | (with_reducible assumption) | assumption) : p := h
theorem q8_11 {p : Prop} (h : p := by (with_reducible repeat (first | apply Kd.R_alloc | apply Kd.R_drewN | apply Kd.R_drew)); exact HO298.out) : p := h
theorem q8_12 {p : Prop} (h : p := by (with_reducible repeat (first | apply Kd.R_alloc | apply Kd.R_drewN | apply Kd.R_drew)); exact HO_9.out) : p := h
theorem q8_13 {p : Prop} (h : p := by (with_reducible repeat (first | apply Kd.R_alloc | apply Kd.R_drewN | apply Kd.R_drew)); exact HO_4.out) : p := h
theorem q8_14 {p : Prop} (h : p := by (with_reducible repeat (first | apply Kd.R_alloc | apply Kd.R_drewN | apply Kd.R_drew)); exact HO301.out) : p := h
theorem q8_15 {p : Prop} (h : p := by (with_reducible repeat (first | apply Kd.R_alloc | apply Kd.R_drewN | apply Kd.R_drew)); exact HO259.out) : p := h
theorem q8_16 {p : Prop} (h : p := by repeat (first | (with_reducible exact HR269.out) | (with_reducible refine Kd.C_alloc ?_ _) | (with_reducible refine Kd.C_drewN ?_ _) | (with_reducible refine Kd.C_drew ?_) | exact HR269.out)) : p := h
theorem q8_17 {p : Prop} (h : p := by (with_reducible repeat (first | apply Kd.R_alloc | apply Kd.R_drewN | apply Kd.R_drew)); exact Kd.R_mono HO_6.out (fun _ hk => ⟨⟨hk.1, hk.2.1⟩, hk.2.2⟩)) : p := h
theorem q8_18 {p : Prop} (h : p := by (with_reducible repeat (first | apply Kd.R_alloc | apply Kd.R_drewN | apply Kd.R_drew)); exact Kd.R_mono HO_6.out (fun _ hk => ⟨hk.1.1, ⟨hk.1.2, hk.2⟩⟩)) : p := h
theorem q8_19 {p : Prop} (h : p := by (with_reducible repeat (first | apply Kd.R_alloc | apply Kd.R_drewN | apply Kd.R_drew)); exact Kd.R_mono HO_0.out (fun _ hk => ⟨⟨hk.1.1, hk.2⟩, hk.1.2⟩)) : p := h
theorem q8_20 {p : Prop} (h : p := by (with_reducible repeat (first | apply Kd.R_alloc | apply Kd.R_drewN | apply Kd.R_drew)); exact Kd.R_mono HO_0.out (fun _ hk => ⟨⟨hk.1, hk.2.2⟩, hk.2.1⟩)) : p := h
set_option maxHeartbeats 8000000 in
set_option maxRecDepth 100000 in
theorem batonref02_Sum.calls (k : Nat) (A0 : Option Addr) (c0 : Nat) (l0 : List Int) (r : List Int) (w : World) (hr0 : Kd.C (Kd.int .u8) w A0 l0.length l0) (hc0 : l0.length ≤ c0) (h : batonref02_Sum.f k l0 = some r) :
  Calls Try.prog 111 #[.slice A0 l0.length c0] w fun e w' => ∃ v0_ : Value, e = .returned (v0_) ∧ Kd.R (Kd.int .u8) 5 w' w.heap.size (fun _ => True) v0_ r ∧ Below w.heap.size w w' := by
 have HR0 := A8_ hr0
 have HC0 := A8_ hc0
 clear hr0 hc0
 have HB := A8_ (Below.refl w.heap.size w)
 have H : ((some (([] : List Int) : List Int)).bind fun y251 => (if y251.length + l0.length < 140737488355328 then ((some (y251 ++ l0 : List Int)).bind fun y254 => ((batonref02_Pad.f k (l0.length : Int)).bind fun t257 => (if y254.length + t257.length < 140737488355328 then ((batonref02_First.f).bind fun t263 => (batonref02_Sum.l0 k (y254 ++ t257) t263 0)) else (none)))) else (none))) = some r := h
 clear h
 obtain ⟨y251, hy251⟩ : ∃ y_ : List Int, y_ = (([] : List Int)) := ⟨_, rfl⟩
 replace H : (if y251.length + l0.length < 140737488355328 then ((some (y251 ++ l0 : List Int)).bind fun y254 => ((batonref02_Pad.f k (l0.length : Int)).bind fun t257 => (if y254.length + t257.length < 140737488355328 then ((batonref02_First.f).bind fun t263 => (batonref02_Sum.l0 k (y254 ++ t257) t263 0)) else (none)))) else (none)) = some r := by first | (rw [hy251]; with_reducible exact H) | (have H2_ := (Option.bind_some _ _).symm.trans H; rw [hy251]; with_reducible exact H2_) | (have H2_ := (Option.bind_some _ _).symm.trans H; with_reducible exact H2_) | with_reducible exact H | (rw [hy251]; exact H) | exact H
 have Ny251 := A8_ hy251
 clear hy251
 by_cases c2 : y251.length + l0.length < 140737488355328
 ·rw [if_pos c2] at H
  have LMc2 := A8_ c2
  clear c2
  obtain ⟨y254, hy254⟩ : ∃ y_ : List Int, y_ = (y251 ++ l0) := ⟨_, rfl⟩
  replace H : ((batonref02_Pad.f k (l0.length : Int)).bind fun t257 => (if y254.length + t257.length < 140737488355328 then ((batonref02_First.f).bind fun t263 => (batonref02_Sum.l0 k (y254 ++ t257) t263 0)) else (none))) = some r := by first | (rw [hy254]; with_reducible exact H) | (have H2_ := (Option.bind_some _ _).symm.trans H; rw [hy254]; with_reducible exact H2_) | (have H2_ := (Option.bind_some _ _).symm.trans H; with_reducible exact H2_) | with_reducible exact H | (rw [hy254]; exact H) | exact H
  have Ny254 := A8_ hy254
  clear hy254
  replace H := Option.bind_eq_some_iff.mp H
  obtain ⟨t257, A30, H⟩ := H
  replace H : (if y254.length + t257.length < 140737488355328 then ((batonref02_First.f).bind fun t263 => (batonref02_Sum.l0 k (y254 ++ t257) t263 0)) else (none)) = some r := H
  have A3 := A8_ A30
  clear A30
  by_cases c4 : y254.length + t257.length < 140737488355328
  ·rw [if_pos c4] at H
   have LMc4 := A8_ c4
   clear c4
   obtain ⟨y260, hy260⟩ : ∃ y_ : List Int, y_ = (y254 ++ t257) := ⟨_, rfl⟩
   replace H : ((batonref02_First.f).bind fun t263 => (batonref02_Sum.l0 k y260 t263 0)) = some r := by first | (rw [hy260]; with_reducible exact H) | (have H2_ := (Option.bind_some _ _).symm.trans H; rw [hy260]; with_reducible exact H2_) | (have H2_ := (Option.bind_some _ _).symm.trans H; with_reducible exact H2_) | with_reducible exact H | (rw [hy260]; exact H) | exact H
   have Ny260 := A8_ hy260
   clear hy260
   replace H := Option.bind_eq_some_iff.mp H
   obtain ⟨t263, A50, H⟩ := H
   replace H : (batonref02_Sum.l0 k y260 t263 0) = some r := H
   have A5 := A8_ A50
   clear A50
   have H' := A8_ H
   clear H
   go_enter Try.func111, Try.ntmps111
   go_wp2_with (first | ((with_reducible refine gate_dst (N := 9) rfl ?_); refine Kd.R_lit (Kd.int .u8) _ 5 ?hg (N := 9) ?hd (xs := ([] : List Int)) (inner := []) (ok := fun _ => True) (okp := fun _ => True) ?hr ?hp (fun _ hk => hk) trivial (Below.refl _ _) (Nat.le_refl _) (by simp) ?_; (case hd => rfl); (case hg => rfl); (case hr => first | (go_simp; done) | (go_simp; rfl)); (case hp => exact (Reps.none _ _)); intro v252 w6 ho7 hb hg_ hnew_; clear hg_ hnew_; (first | rw [← Ny251.out] at ho7 | (simp only [Int.reduceToNat] at ho7; rw [← Ny251.out] at ho7)); have n0_ := A8_ (Kd.R_lower ho7 (below_size q8_2)); have n1_ := A8_ (below_step q8_2 hb); clear HB; have HO253 := n0_; have HB := n1_; clear n0_ n1_; clear hb ho7) | ((with_reducible refine gate_builtin (b := .append) (xs := #[.tmp 9, .tmp 10]) rfl ?_); at_builtin; refine Kd.R_append_rows (Kd.int .u8) (w0 := w) w.heap.size rfl (.tmp 9) (.tmp 10) 22 5 (.int .u8 0) 1 rfl Try.underlying22 info5 rfl (by decide) (by omega) v252 y251 l0 _ _ _ (fun _ => True) (fun _ => False) rfl rfl ?aO ?aR (fun _ _ h => h) (fun _ h => h.elim) ?aF ?aB ?aS ?aL ?_; (case aR => repeat (first | exact (Kd.C_below HR0.out HB.out) | (with_reducible refine Kd.C_alloc ?_ _) | (with_reducible refine Kd.C_drewN ?_ _) | (with_reducible refine Kd.C_drew ?_))); (case aB => exact q8_2); (case aF => exact (fun _ _ => trivial)); (case aO => exact (by (with_reducible repeat (first | apply Kd.R_alloc | apply Kd.R_drewN | apply Kd.R_drew)); exact HO253.out)); (case aS => exact (below_size q8_2)); (case aL => have := LMc2.out; omega); intro v255 w8 ho hb hg hat; rw [← Ny254.out] at ho; have n0_ := A8_ (hb); have n1_ := A8_ (ho); clear HB HO253; have HB := n0_; have HO256 := n1_; clear n0_ n1_; clear ho hb hg hat) | ((with_reducible refine gate_callee (f := 118) rfl ?_); refine goesL_ (some 14) rfl rfl Try.func118 (by kernel_rfl) rfl #[.int .i64 (l0.length : Int)] rfl q8_7 ?_; (with_reducible refine (batonref02_Pad.calls k (l0.length : Int) t257 _ A3.out).mono ?_); rintro e w9 ⟨v258, rfl, ho0, hb⟩; refine ⟨_, rfl, ?_⟩; have n0_ := A8_ (Kd.R_elder' (by (with_reducible repeat (first | apply Kd.R_alloc | apply Kd.R_drewN | apply Kd.R_drew)); exact HO256.out) (Kd.R_base ho0) hb); have n1_ := A8_ (Kd.R_lower (Kd.R_new' ho0 (Kd.R_lt (by (with_reducible repeat (first | apply Kd.R_alloc | apply Kd.R_drewN | apply Kd.R_drew)); exact HO256.out))) (below_size q8_2)); have n2_ := A8_ (below_step q8_2 hb); clear HO256 HB; have HO256 := n0_; have HO259 := n1_; have HB := n2_; clear n0_ n1_ n2_; (try clear hb); (try clear hb2); (try clear hk); (try clear hi); (try clear ho0); obtain ⟨Ao11, co11, eo11⟩ := Kd.R_slice HO259.out; subst eo11) | ((with_reducible refine gate_builtin (b := .append) (xs := #[.tmp 11, .tmp 14]) rfl ?_); at_builtin; refine Kd.R_append_rows (Kd.int .u8) (w0 := w) w.heap.size rfl (.tmp 11) (.tmp 14) 22 5 (.int .u8 0) 1 rfl Try.underlying22 info5 rfl (by decide) (by omega) v255 y254 t257 _ _ _ (fun k_ => some k_ ≠ (.slice Ao11 t257.length co11 : Value).ownBlock) (fun _ => False) rfl rfl ?aO ?aR (fun _ _ h => h) (fun _ h => h.elim) ?aF ?aB ?aS ?aL ?_; (case aR => repeat (first | exact (Kd.R_reads' HO259.out).2.2 | (with_reducible refine Kd.C_alloc ?_ _) | (with_reducible refine Kd.C_drewN ?_ _) | (with_reducible refine Kd.C_drew ?_))); (case aB => exact q8_2); (case aF => exact (fun k_ hk => Kd.fresh' (Kd.R_lt q8_15) k_ hk)); (case aO => exact (by (with_reducible repeat (first | apply Kd.R_alloc | apply Kd.R_drewN | apply Kd.R_drew)); exact Kd.R_mono HO256.out (fun _ hk => hk.2))); (case aS => exact (below_size q8_2)); (case aL => have := LMc4.out; omega); intro v261 w10 ho hb hg hat; rw [← Ny260.out] at ho; have n0_ := A8_ (Kd.R_after (ok := (fun _ => True)) q8_15 hg hat); have n1_ := A8_ (hb); have n2_ := A8_ (ho); clear HO259 HB HO256; have HO259 := n0_; have HB := n1_; have HO262 := n2_; clear n0_ n1_ n2_; clear ho hb hg hat) | ((with_reducible refine gate_callee (f := 119) rfl ?_); refine goesL_ (some 16) rfl rfl Try.func119 (by kernel_rfl) rfl #[] rfl q8_7 ?_; (with_reducible refine (batonref02_First.calls  t263 _ A5.out).mono ?_); rintro e w12 ⟨v264, rfl, ho0, hb⟩; refine ⟨_, rfl, ?_⟩; have n0_ := A8_ (Kd.R_below q8_15 hb); have n1_ := A8_ (Kd.R_below (by (with_reducible repeat (first | apply Kd.R_alloc | apply Kd.R_drewN | apply Kd.R_drew)); exact HO262.out) hb); have n2_ := A8_ (Kd.R_lower ho0 (below_size q8_2)); have n3_ := A8_ (below_step q8_2 hb); clear HO259 HO262 HB; have HO259 := n0_; have HO262 := n1_; have HO265 := n2_; have HB := n3_; clear n0_ n1_ n2_ n3_; (try clear hb); (try clear hb2); (try clear hk); (try clear hi); (try clear ho0)))
   go_loopg [4, 5] k (fun kq v4 v5 w' => ∃ (x4_1 : List Int) (x5_1 : Int), v5 = .int .i64 x5_1 ∧ Aside0 (batonref02_Sum.l0 kq y260 x4_1 x5_1 = some r) ∧ Aside0 (kq ≤ k) ∧ Aside0 (Kd.R (Kd.int .u8) 5 w' w.heap.size (fun _ => True) v261 y260) ∧ Aside0 (Kd.R (Kd.int .u32) 199 w' w.heap.size (fun _ => True) v4 x4_1) ∧ Aside0 (Below w.heap.size w w'))
   case atStart => exact ⟨(t263), (0), q8_8, H', ⟨Nat.le_refl _⟩, ⟨by (with_reducible repeat (first | apply Kd.R_alloc | apply Kd.R_drewN | apply Kd.R_drew)); exact Kd.R_mono HO262.out (fun _ hk => trivial)⟩, ⟨by (with_reducible repeat (first | apply Kd.R_alloc | apply Kd.R_drewN | apply Kd.R_drew)); exact HO265.out⟩, ⟨by repeat (first | (with_reducible first | exact HB.out | apply below_alloc | apply pw_below_drewN | apply below_drew1) | exact HB.out)⟩⟩
   case round =>
    clear H'
    try clear c1
    try clear c2
    try clear p2
    try clear c4
    try clear c11
    obtain ⟨x4_1, x5_1, rfl, HA, HK1, HO_3, HO_4, HB⟩ := hrel
    cases gk with
    | zero => exact absurd HA.out (by simp [batonref02_Sum.l0])
    | succ k1 =>
     have H := HA.out
     clear HA
     simp only [batonref02_Sum.l0] at H
     by_cases c13 : x5_1 < (y260.length : Int)
     ·rw [if_pos c13] at H
      have c13b0 : decide (x5_1 < (y260.length : Int)) = true := decide_eq_true c13
      clear c13
      by_cases c14 : 0 ≤ x5_1
      ·rw [if_pos c14] at H
       have c14b0 := eq_true c14
       have c14b1 : decide (0 ≤ x5_1) = true := decide_eq_true c14
       clear c14
       obtain ⟨ji15, hji15⟩ : ∃ j_ : Int, (wrap64 (x5_1 + 64)) = j_ := ⟨_, rfl⟩
       replace H : (if x5_1 ≤ (ji15) then (if (ji15) ≤ (y260.length : Int) then ((batonref02_Rounds.f k1 x4_1 ((y260.take ((ji15) : Int).toNat).drop (x5_1 : Int).toNat)).bind fun t270 => (batonref02_Sum.l0 k1 y260 t270 ji15)) else (none)) else (none)) = some r := by first | (rw [hji15] at H; exact H) | (simp only [hji15] at H ⊢; exact H)
       have hji15w : (IntKind.i64.wrap (x5_1 + 64)) = ji15 := (i64_w _).trans hji15
       by_cases c16 : x5_1 ≤ (ji15)
       ·rw [if_pos c16] at H
        have c16b0 := eq_true c16
        have c16b1 : decide (x5_1 ≤ (ji15)) = true := decide_eq_true c16
        clear c16
        by_cases c17 : (ji15) ≤ (y260.length : Int)
        ·rw [if_pos c17] at H
         have c17b0 := eq_true c17
         have c17b1 : decide ((ji15) ≤ (y260.length : Int)) = true := decide_eq_true c17
         clear c17
         obtain ⟨y266, hy266⟩ : ∃ y_ : List Int, y_ = ((y260.take ((ji15) : Int).toNat).drop (x5_1 : Int).toNat) := ⟨_, rfl⟩
         replace H : ((batonref02_Rounds.f k1 x4_1 y266).bind fun t270 => (batonref02_Sum.l0 k1 y260 t270 ji15)) = some r := by first | (rw [hy266]; with_reducible exact H) | (have H2_ := (Option.bind_some _ _).symm.trans H; rw [hy266]; with_reducible exact H2_) | (have H2_ := (Option.bind_some _ _).symm.trans H; with_reducible exact H2_) | with_reducible exact H | (rw [hy266]; exact H) | exact H
         have Ny266 := A8_ hy266
         clear hy266
         replace H := Option.bind_eq_some_iff.mp H
         obtain ⟨t270, A180, H⟩ := H
         replace H : (batonref02_Sum.l0 k1 y260 t270 ji15) = some r := H
         have A18 := A8_ A180
         clear A180
         have H' := A8_ H
         clear H
         obtain ⟨Ao19, co19, eo19⟩ := Kd.R_slice HO_3.out
         subst eo19
         have q20 : ((ji15) : Int) ≤ ((y260.length : Int) : Int) := of_decide_eq_true q8_10
         obtain ⟨i020, hi020, _, hsz20, _⟩ := info_parts info5
         have hroom20 : y260.length ≤ co19 := (Kd.R_reads' HO_3.out).2.1
         have hC20 : Kd.C (Kd.int .u8) _ Ao19 y260.length y260 := (Kd.R_reads' HO_3.out).2.2
         have ql20 : (x5_1 : Int) ≤ ((ji15) : Int) := of_decide_eq_true q8_10
         have q020 : (0 : Int) ≤ (x5_1 : Int) := of_decide_eq_true q8_10
         have hcut20 := fun kl_ kh_ => cut_mid (P := Try.prog) 22 5 kl_ kh_ Try.underlying22 hi020 1 hsz20 Ao19 y260.length co19 x5_1 (ji15) q020 ql20 q20 hroom20
         have hr20 := Kd.C_mid (lo := (x5_1 : Int).toNat) (hi := ((ji15) : Int).toNat) (c := co19) hC20 (by omega) (by omega) hroom20
         obtain ⟨A20, hA20⟩ : ∃ A1, A1 = (if co19 = (x5_1 : Int).toNat then Ao19 else (Ao19 : Option Addr).map (·.add ((x5_1 : Int).toNat * 1))) := ⟨_, rfl⟩
         obtain ⟨c20, hc20⟩ : ∃ c1, c1 = co19 - (x5_1 : Int).toNat := ⟨_, rfl⟩
         have hy20 : y266.length = ((ji15) : Int).toNat - (x5_1 : Int).toNat := (by rw [Ny266.out, List.length_drop, List.length_take] <;> omega)
         rw [show ((y260).take ((ji15) : Int).toNat).drop (x5_1 : Int).toNat = y266 from Ny266.out.symm] at hr20
         replace hr20 : Kd.C (Kd.int .u8) _ A20 y266.length y266 := (by rw [hA20]; exact hr20)
         rw [← hy20, ← hA20, ← hc20] at hcut20
         have HR269 := A8_ hr20
         have HC269 := A8_ (show y266.length ≤ c20 from by rw [hy20, hc20]; exact Nat.sub_le_sub_right (Nat.le_trans (by omega) hroom20) _)
         clear hr20 hC20 hroom20 hi020 hsz20 hc20
         have KY20 := A8_ hy20
         have KA20 := A8_ hA20
         clear hy20 hA20
         have KL20 := A8_ (show ((ji15) : Int).toNat ≤ y260.length from by omega)
         have KM20 := A8_ (show (x5_1 : Int).toNat ≤ ((ji15) : Int).toNat from by omega)
         replace q20 := eq_true q20
         obtain ⟨Ao21, co21, eo21⟩ := Kd.R_slice HO_4.out
         subst eo21
         go_wp2_with (first | ((with_reducible refine gate_callee (f := 120) rfl ?_); refine goesL_ (some 29) rfl rfl Try.func120 (by kernel_rfl) rfl #[.slice Ao21 x4_1.length co21, .slice A20 y266.length c20] rfl q8_7 ?_; (with_reducible refine (batonref02_Rounds.calls k1 _ _ x4_1 _ _ y266 t270 _ ?side1 ?side2 ?side3 ?side4 A18.out).mono ?_); (case side1 => repeat (first | exact (Kd.R_reads' HO_4.out).2.2 | (with_reducible refine Kd.C_alloc ?_ _) | (with_reducible refine Kd.C_drewN ?_ _) | (with_reducible refine Kd.C_drew ?_))); (case side2 => exact (Kd.R_reads' HO_4.out).2.1); (case side3 => repeat (first | exact q8_16 | (with_reducible refine Kd.C_alloc ?_ _) | (with_reducible refine Kd.C_drewN ?_ _) | (with_reducible refine Kd.C_drew ?_))); (case side4 => exact HC269.out); rintro e w22 ⟨v271, rfl, ho0, hb⟩; refine ⟨_, rfl, ?_⟩; have n0_ := A8_ (Kd.R_below (by (with_reducible repeat (first | apply Kd.R_alloc | apply Kd.R_drewN | apply Kd.R_drew)); exact HO_3.out) hb); have n1_ := A8_ (Kd.R_elder' q8_13 (Kd.R_base ho0) hb); have n2_ := A8_ (Kd.R_lower (Kd.R_new' ho0 (Kd.R_lt q8_13)) (below_size q8_2)); have n3_ := A8_ (Kd.C_below q8_16 hb); have n4_ := A8_ (below_step q8_2 hb); clear HO_3 HO_4 HR269 HB; have HO_3 := n0_; have HO_4 := n1_; have HO272 := n2_; have HR269 := n3_; have HB := n4_; clear n0_ n1_ n2_ n3_ n4_; (try clear hb); (try clear hb2); (try clear hk); (try clear hi); (try clear ho0)))
         go_roundg k1
         case measure => have := HK1.out; omega
         case rel => exact ⟨(t270), (ji15), (by first | rfl | (simp; done) | (simp only [← hji15] <;> (first | rfl | simp)) | (simp [*]; done)), H', ⟨by have := HK1.out; omega⟩, ⟨by (with_reducible repeat (first | apply Kd.R_alloc | apply Kd.R_drewN | apply Kd.R_drew)); exact HO_3.out⟩, ⟨by (with_reducible repeat (first | apply Kd.R_alloc | apply Kd.R_drewN | apply Kd.R_drew)); exact Kd.R_mono HO272.out (fun _ hk => trivial)⟩, ⟨by repeat (first | (with_reducible first | exact HB.out | apply below_alloc | apply pw_below_drewN | apply below_drew1) | exact HB.out)⟩⟩
        ·rw [if_neg c17] at H
         exact absurd H (by simp)
       ·rw [if_neg c16] at H
        exact absurd H (by simp)
      ·rw [if_neg c14] at H
       exact absurd H (by simp)
     ·rw [if_neg c13] at H
      have c13b0 : decide (x5_1 < (y260.length : Int)) = false := decide_eq_false c13
      clear c13
      have H' := A8_ H
      clear H
      obtain ⟨Ao23, co23, eo23⟩ := Kd.R_slice HO_3.out
      subst eo23
      go_wp2
      go_loopg [6, 7] k1 (fun kq v6 v7 w' => ∃ (x6_2 : List Int) (x7_2 : Int), v7 = .int .i64 x7_2 ∧ Aside0 (batonref02_Sum.l1 kq x4_1 x6_2 x7_2 = some r) ∧ Aside0 (kq ≤ k1) ∧ Aside0 (Kd.R (Kd.int .u32) 199 w' w.heap.size (fun _ => True) u4 x4_1) ∧ Aside0 (Kd.R (Kd.int .u8) 5 w' w.heap.size (fun _ => True) v6 x6_2) ∧ Aside0 (Below w.heap.size w w'))
      case atStart => exact ⟨(([] : List Int)), (0), q8_8, H', ⟨Nat.le_refl _⟩, ⟨by (with_reducible repeat (first | apply Kd.R_alloc | apply Kd.R_drewN | apply Kd.R_drew)); exact HO_4.out⟩, ⟨by first | exact Kd.R_nil _ _ _ _ _ | exact Kd.N_nil _ _ _ _ _ | exact Kd.V_nil _ _ _ _ _ | exact Kd.Q_nil _ _ _ _ _ | exact Kd.S_nil _ _ _ _ _⟩, ⟨by repeat (first | (with_reducible first | exact HB.out | apply below_alloc | apply pw_below_drewN | apply below_drew1) | exact HB.out)⟩⟩
      case round =>
       clear H'
       try clear c1
       try clear c2
       try clear p2
       try clear q2
       try clear c4
       try clear p6
       try clear c11
       try clear c12
       try clear c13
       try clear c13b0
       try clear c14
       try clear c14b0
       try clear c14b1
       try clear c16
       try clear c16b0
       try clear c16b1
       try clear c17
       try clear c17b0
       try clear c17b1
       try clear c20
       try clear q20
       try clear p2
       try clear q020
       try clear q20
       obtain ⟨x6_2, x7_2, rfl, HA, HK2, HO_4, HO_6, HB⟩ := hrel
       cases gk with
       | zero => exact absurd HA.out (by simp [batonref02_Sum.l1])
       | succ k2 =>
        have H := HA.out
        clear HA
        simp only [batonref02_Sum.l1] at H
        by_cases c24 : x7_2 < 8
        ·rw [if_pos c24] at H
         have c24b0 : decide (x7_2 < 8) = true := decide_eq_true c24
         clear c24
         by_cases c25 : 0 ≤ x7_2
         ·rw [if_pos c25] at H
          have c25b0 : decide (0 ≤ x7_2) = true := decide_eq_true c25
          clear c25
          by_cases c26 : x7_2 < (x4_1.length : Int)
          ·rw [if_pos c26] at H
           have c26b0 : decide (x7_2 < (x4_1.length : Int)) = true := decide_eq_true c26
           clear c26
           obtain ⟨y274, hy274⟩ : ∃ y_ : List Int, y_ = (([((Int.tdiv (rd x4_1 x7_2) 16777216) % 4294967296) % 256, ((Int.tdiv (rd x4_1 x7_2) 65536) % 4294967296) % 256, ((Int.tdiv (rd x4_1 x7_2) 256) % 4294967296) % 256, (Int.tmod (rd x4_1 x7_2) 256) % 256] : List Int)) := ⟨_, rfl⟩
           replace H : (if x6_2.length + y274.length < 140737488355328 then (batonref02_Sum.l1 k2 x4_1 (x6_2 ++ y274) (wrap64 (x7_2 + 1))) else (none)) = some r := by first | (rw [hy274]; with_reducible exact H) | (have H2_ := (Option.bind_some _ _).symm.trans H; rw [hy274]; with_reducible exact H2_) | (have H2_ := (Option.bind_some _ _).symm.trans H; with_reducible exact H2_) | with_reducible exact H | (rw [hy274]; exact H) | exact H
           have Ny274 := A8_ hy274
           clear hy274
           by_cases c27 : x6_2.length + y274.length < 140737488355328
           ·rw [if_pos c27] at H
            have LMc27 := A8_ c27
            clear c27
            obtain ⟨y277, hy277⟩ : ∃ y_ : List Int, y_ = (x6_2 ++ y274) := ⟨_, rfl⟩
            replace H : (batonref02_Sum.l1 k2 x4_1 y277 (wrap64 (x7_2 + 1))) = some r := by first | (rw [hy277]; with_reducible exact H) | (have H2_ := (Option.bind_some _ _).symm.trans H; rw [hy277]; with_reducible exact H2_) | (have H2_ := (Option.bind_some _ _).symm.trans H; with_reducible exact H2_) | with_reducible exact H | (rw [hy277]; exact H) | exact H
            have Ny277 := A8_ hy277
            clear hy277
            have H' := A8_ H
            clear H
            obtain ⟨Ao28, co28, eo28⟩ := Kd.R_slice HO_4.out
            subst eo28
            have p273 : 0 ≤ (x7_2 : Int) := of_decide_eq_true q8_10
            have q273 : x7_2 < (x4_1.length : Int) := of_decide_eq_true q8_10
            obtain ⟨ad273, e273, hx273_0⟩ := Kd.at_int (Kd.R_reads' HO_4.out).2.2 x7_2 p273 q273
            cases e273
            replace p273 := eq_true p273
            replace q273 := eq_true q273
            go_wp2_with (first | ((with_reducible refine gate_dst (N := 53) rfl ?_); refine Kd.R_lit (Kd.int .u8) _ 5 ?hg (N := 53) ?hd (xs := ([((Int.tdiv (rd x4_1 x7_2) 16777216) % 4294967296) % 256, ((Int.tdiv (rd x4_1 x7_2) 65536) % 4294967296) % 256, ((Int.tdiv (rd x4_1 x7_2) 256) % 4294967296) % 256, (Int.tmod (rd x4_1 x7_2) 256) % 256] : List Int)) (inner := [.int .u8 (((Int.tdiv (rd x4_1 x7_2) 16777216) % 4294967296) % 256), .int .u8 (((Int.tdiv (rd x4_1 x7_2) 65536) % 4294967296) % 256), .int .u8 (((Int.tdiv (rd x4_1 x7_2) 256) % 4294967296) % 256), .int .u8 ((Int.tmod (rd x4_1 x7_2) 256) % 256)]) (ok := fun _ => True) (okp := fun _ => True) ?hr ?hp (fun _ hk => hk) trivial (Below.refl _ _) (Nat.le_refl _) (by simp) ?_; (case hd => rfl); (case hg => rfl); (case hr => first | (go_simp; done) | (go_simp; rfl)); (case hp => exact (Reps.one (show Kd.M (Kd.int .u8) _ _ _ (((Int.tdiv (rd x4_1 x7_2) 16777216) % 4294967296) % 256) [.int .u8 (((Int.tdiv (rd x4_1 x7_2) 16777216) % 4294967296) % 256)] from rfl) (Reps.one (show Kd.M (Kd.int .u8) _ _ _ (((Int.tdiv (rd x4_1 x7_2) 65536) % 4294967296) % 256) [.int .u8 (((Int.tdiv (rd x4_1 x7_2) 65536) % 4294967296) % 256)] from rfl) (Reps.one (show Kd.M (Kd.int .u8) _ _ _ (((Int.tdiv (rd x4_1 x7_2) 256) % 4294967296) % 256) [.int .u8 (((Int.tdiv (rd x4_1 x7_2) 256) % 4294967296) % 256)] from rfl) (Reps.one (show Kd.M (Kd.int .u8) _ _ _ ((Int.tmod (rd x4_1 x7_2) 256) % 256) [.int .u8 ((Int.tmod (rd x4_1 x7_2) 256) % 256)] from rfl) (Reps.none _ _)))))); intro v275 w29 ho30 hb hg_ hnew_; clear hg_ hnew_; (first | rw [← Ny274.out] at ho30 | (simp only [Int.reduceToNat] at ho30; rw [← Ny274.out] at ho30)); have n0_ := A8_ (Kd.R_below q8_13 hb); have n1_ := A8_ (Kd.R_elder' q8_9 (Kd.R_base ho30) hb); have n2_ := A8_ (Kd.R_lower (Kd.R_new' ho30 (Kd.R_lt q8_9)) (below_size q8_2)); have n3_ := A8_ (below_step q8_2 hb); clear HO_4 HO_6 HB; have HO_4 := n0_; have HO_6 := n1_; have HO276 := n2_; have HB := n3_; clear n0_ n1_ n2_ n3_; clear hb ho30; obtain ⟨Ao32, co32, eo32⟩ := Kd.R_slice HO276.out; subst eo32) | ((with_reducible refine gate_builtin (b := .append) (xs := #[.tmp 38, .tmp 53]) rfl ?_); at_builtin; refine Kd.R_append_rows (Kd.int .u8) (w0 := w) w.heap.size rfl (.tmp 38) (.tmp 53) 22 5 (.int .u8 0) 1 rfl Try.underlying22 info5 rfl (by decide) (by omega) u6 x6_2 y274 _ _ _ (fun k_ => some k_ ≠ (.slice Ao32 y274.length co32 : Value).ownBlock) (fun _ => False) rfl rfl ?aO ?aR (fun _ _ h => h) (fun _ h => h.elim) ?aF ?aB ?aS ?aL ?_; (case aR => repeat (first | exact (Kd.R_reads' HO276.out).2.2 | (with_reducible refine Kd.C_alloc ?_ _) | (with_reducible refine Kd.C_drewN ?_ _) | (with_reducible refine Kd.C_drew ?_))); (case aB => exact q8_2); (case aF => exact (fun k_ hk => Kd.fresh' (Kd.R_lt (by (with_reducible repeat (first | apply Kd.R_alloc | apply Kd.R_drewN | apply Kd.R_drew)); exact HO276.out)) k_ hk)); (case aO => exact (by (with_reducible repeat (first | apply Kd.R_alloc | apply Kd.R_drewN | apply Kd.R_drew)); exact Kd.R_mono HO_6.out (fun _ hk => hk.2))); (case aS => exact (below_size q8_2)); (case aL => have := LMc27.out; omega); intro v278 w31 ho hb hg hat; rw [← Ny277.out] at ho; have n0_ := A8_ (Kd.R_over' q8_13 (Kd.R_typed q8_9) (by decide) hg); have n1_ := A8_ (Kd.R_after (ok := (fun _ => True)) (by (with_reducible repeat (first | apply Kd.R_alloc | apply Kd.R_drewN | apply Kd.R_drew)); exact HO276.out) hg hat); have n2_ := A8_ (hb); have n3_ := A8_ (ho); clear HO_4 HO276 HB HO_6; have HO_4 := n0_; have HO276 := n1_; have HB := n2_; have HO279 := n3_; clear n0_ n1_ n2_ n3_; clear ho hb hg hat))
            go_roundg k2
            case measure => have := HK1.out; have := HK2.out; omega
            case rel => exact ⟨(y277), (wrap64 (x7_2 + 1)), q8_8, H', ⟨by have := HK1.out; have := HK2.out; omega⟩, ⟨by (with_reducible repeat (first | apply Kd.R_alloc | apply Kd.R_drewN | apply Kd.R_drew)); exact HO_4.out⟩, ⟨by (with_reducible repeat (first | apply Kd.R_alloc | apply Kd.R_drewN | apply Kd.R_drew)); exact Kd.R_mono HO279.out (fun _ hk => trivial)⟩, ⟨by repeat (first | (with_reducible first | exact HB.out | apply below_alloc | apply pw_below_drewN | apply below_drew1) | exact HB.out)⟩⟩
           ·rw [if_neg c27] at H
            exact absurd H (by simp)
          ·rw [if_neg c26] at H
           exact absurd H (by simp)
         ·rw [if_neg c25] at H
          exact absurd H (by simp)
        ·rw [if_neg c24] at H
         have c24b0 : decide (x7_2 < 8) = false := decide_eq_false c24
         clear c24
         obtain rfl := Option.some.inj H
         go_wp2
         go_ret
         exact ⟨_, by first | rfl | (simp [errW_none, errW_some] <;> rfl) | (simp [*, errW_none, errW_some] <;> rfl), by (with_reducible repeat (first | apply Kd.R_alloc | apply Kd.R_drewN | apply Kd.R_drew)); exact HO_6.out, by repeat (first | (with_reducible first | exact HB.out | apply below_alloc | apply pw_below_drewN | apply below_drew1) | exact HB.out)⟩
  ·rw [if_neg c4] at H
   exact absurd H (by simp)
 ·rw [if_neg c2] at H
  exact absurd H (by simp)

/-! ### batonref03_Sum: function 95 -/
mutual
def batonref03_Sum.j0 : Nat → List Int → List Int → Option (List Int)
 | 0, _, _ => none
 | k + 1, x0, x1 => batonref03_Sum.l0 k x0 x1 ([] : List Int) ([] : List Int) 0
def batonref03_Sum.l0 : Nat → List Int → List Int → List Int → List Int → Int → Option (List Int)
 | 0, _, _, _, _, _ => none
 | k + 1, x0, x1, x5, x6, x7 => if x7 < 64 then (if x7 < (x0.length : Int) then (if 0 ≤ x7 then (if x5.length < 140737488355328 then (if x6.length < 140737488355328 then (batonref03_Sum.l0 k x0 x1 (x5 ++ [Go.bits .xor .u8 (rd x0 x7) 92]) (x6 ++ [Go.bits .xor .u8 (rd x0 x7) 54]) (wrap64 (x7 + 1))) else (none)) else (none)) else (none)) else (if x5.length < 140737488355328 then (if x6.length < 140737488355328 then (batonref03_Sum.l0 k x0 x1 (x5 ++ [Go.bits .xor .u8 0 92]) (x6 ++ [Go.bits .xor .u8 0 54]) (wrap64 (x7 + 1))) else (none)) else (none))) else (if x6.length + x1.length < 140737488355328 then ((batonref02_Sum.f k (x6 ++ x1)).bind fun t299 => (if x5.length + t299.length < 140737488355328 then ((batonref02_Sum.f k (x5 ++ t299)).bind fun t305 => (some t305)) else (none))) else (none))
end
def batonref03_Sum.f (k : Nat) (l0 : List Int) (l1 : List Int) : Option (List Int) := if (l0.length : Int) > 64 then ((batonref02_Sum.f k l0).bind fun t280 => (batonref03_Sum.j0 k t280 l1)) else (batonref03_Sum.j0 k l0 l1)
theorem batonref03_Sum.mono_l : ∀ k, (∀ y0 y1, LeO (batonref03_Sum.j0 k y0 y1) (batonref03_Sum.j0 (k + 1) y0 y1)) ∧ (∀ y0 y1 y2 y3 y4, LeO (batonref03_Sum.l0 k y0 y1 y2 y3 y4) (batonref03_Sum.l0 (k + 1) y0 y1 y2 y3 y4))
 | 0 => ⟨fun _ _ r h => by simp [batonref03_Sum.j0] at h, fun _ _ _ _ _ r h => by simp [batonref03_Sum.l0] at h⟩
 | k + 1 => by
  obtain ⟨ih0, ih1⟩ := batonref03_Sum.mono_l k
  refine ⟨?_, ?_⟩
  ·intro y0 y1
   unfold batonref03_Sum.j0
   repeat' first
   | (with_reducible exact ih0 _ _)
   | (with_reducible exact ih1 _ _ _ _ _)
   | (with_reducible exact batonref02_Sum.mono _ _)
   | (with_reducible exact LeO.refl _)
   | (with_reducible exact LeO.none _)
   | (with_reducible refine LeO.ite ?_ ?_)
   | (with_reducible refine LeO.bind ?_ (fun _ => ?_))
   | exact ih0 _ _
   | exact ih1 _ _ _ _ _
   | exact batonref02_Sum.mono _ _
   | exact LeO.none _
   | refine LeO.ite ?_ ?_
   | refine LeO.bind ?_ (fun _ => ?_)
  ·intro y0 y1 y2 y3 y4
   unfold batonref03_Sum.l0
   repeat' first
   | (with_reducible exact ih0 _ _)
   | (with_reducible exact ih1 _ _ _ _ _)
   | (with_reducible exact batonref02_Sum.mono _ _)
   | (with_reducible exact LeO.refl _)
   | (with_reducible exact LeO.none _)
   | (with_reducible refine LeO.ite ?_ ?_)
   | (with_reducible refine LeO.bind ?_ (fun _ => ?_))
   | exact ih0 _ _
   | exact ih1 _ _ _ _ _
   | exact batonref02_Sum.mono _ _
   | exact LeO.none _
   | refine LeO.ite ?_ ?_
   | refine LeO.bind ?_ (fun _ => ?_)
theorem batonref03_Sum.mono : ∀ a0 a1 k, LeO (batonref03_Sum.f k a0 a1) (batonref03_Sum.f (k + 1) a0 a1) := by
 intro a0 a1 k
 obtain ⟨ih0, ih1⟩ := batonref03_Sum.mono_l k
 unfold batonref03_Sum.f
 repeat' first
   | (with_reducible exact ih0 _ _)
   | (with_reducible exact ih1 _ _ _ _ _)
   | (with_reducible exact batonref02_Sum.mono _ _)
   | (with_reducible exact LeO.refl _)
   | (with_reducible exact LeO.none _)
   | (with_reducible refine LeO.ite ?_ ?_)
   | (with_reducible refine LeO.bind ?_ (fun _ => ?_))
   | exact ih0 _ _
   | exact ih1 _ _ _ _ _
   | exact batonref02_Sum.mono _ _
   | exact LeO.none _
   | refine LeO.ite ?_ ?_
   | refine LeO.bind ?_ (fun _ => ?_)
set_option maxHeartbeats 8000000 in
set_option maxRecDepth 100000 in
theorem batonref03_Sum.calls (k : Nat) (P0_ : Nat → Prop) (u9000_ : Value) (l0 : List Int) (A1 : Option Addr) (c1 : Nat) (l1 : List Int) (r : List Int) (w0 w : World) (hB : Below w0.heap.size w0 w) (ho0 : Kd.R (Kd.int .u8) 5 w w0.heap.size P0_ u9000_ l0) (hr1 : ∀ W_, Kept w W_ (fun k_ => P0_ k_) → Kd.C (Kd.int .u8) W_ A1 l1.length l1) (hc1 : l1.length ≤ c1) (h : batonref03_Sum.f k l0 l1 = some r) :
  Calls Try.prog 95 #[u9000_, .slice A1 l1.length c1] w fun e w' => ∃ v0_ : Value, e = .returned (v0_) ∧ Kd.R (Kd.int .u8) 5 w' w0.heap.size (fun k_ => (P0_ k_ ∨ w.heap.size ≤ k_)) v0_ r ∧ Below w0.heap.size w0 w' ∧ Kept w w' (fun k_ => P0_ k_) := by
 have HO0 := A8_ (show Kd.R (Kd.int .u8) 5 w w0.heap.size (fun k_ => (P0_ k_ ∨ w.heap.size ≤ k_)) u9000_ l0 from Kd.R_mono ho0 (fun k_ hk => (.inl hk)))
 have HR1 := A8_ hr1
 have HC1 := A8_ hc1
 clear hr1 hc1
 have HK := A8_ (Kept.refl w (fun k_ => P0_ k_))
 have HW0 := A8_ hB.size
 have HB := A8_ hB
 clear hB
 have H : (if (l0.length : Int) > 64 then ((batonref02_Sum.f k l0).bind fun t280 => (batonref03_Sum.j0 k t280 l1)) else (batonref03_Sum.j0 k l0 l1)) = some r := h
 clear h
 have HC3 := A8_ H
 clear H
 obtain ⟨Ao4, co4, eo4⟩ := Kd.R_slice HO0.out
 subst eo4
 go_enter Try.func95, Try.ntmps95
 go_upto_if 11 with (fail)
 go_cut [0] (fun v0 wc => ∃ (kq : Nat) (x0_2 : List Int), Aside0 (batonref03_Sum.j0 kq x0_2 l1 = some r) ∧ Aside0 (kq ≤ k) ∧ Aside0 (Kd.R (Kd.int .u8) 5 wc w0.heap.size (fun k_ => (P0_ k_ ∨ w.heap.size ≤ k_)) v0 x0_2) ∧ Aside0 (Kept w wc (fun k_ => P0_ k_)) ∧ Aside0 (Below w0.heap.size w0 wc))
 case first =>
  have H := HC3.out
  clear HC3
  by_cases c5 : (l0.length : Int) > 64
  ·rw [if_pos c5] at H
   have c5b0 : decide (64 < (l0.length : Int)) = true := decide_eq_true c5
   have c5b1 : decide (64 < l0.length) = true := decide_eq_true (by omega)
   clear c5
   (first | rw [c5b0] | (simp only [i64_w, i32_w]; rw [c5b0]) | rw [c5b1] | rw [c5b2] | skip)
   replace H := Option.bind_eq_some_iff.mp H
   obtain ⟨t280, A60, H⟩ := H
   replace H : (batonref03_Sum.j0 k t280 l1) = some r := H
   have A6 := A8_ A60
   clear A60
   have H' := A8_ H
   clear H
   go_wp2_with (first | ((with_reducible refine gate_callee (f := 111) rfl ?_); refine goesL_ (some 13) rfl rfl Try.func111 (by kernel_rfl) rfl #[.slice Ao4 l0.length co4] rfl q8_7 ?_; (with_reducible refine (batonref02_Sum.calls k _ _ l0 t280 _ ?side1 ?side2 A6.out).mono ?_); (case side1 => repeat (first | exact (Kd.R_reads' HO0.out).2.2 | (with_reducible refine Kd.C_alloc ?_ _) | (with_reducible refine Kd.C_drewN ?_ _) | (with_reducible refine Kd.C_drew ?_))); (case side2 => exact (Kd.R_reads' HO0.out).2.1); rintro e w7 ⟨v281, rfl, ho0, hb⟩; refine ⟨_, rfl, ?_⟩; have n0_ := A8_ (Kd.R_elder' (by (with_reducible repeat (first | apply Kd.R_alloc | apply Kd.R_drewN | apply Kd.R_drew)); exact HO0.out) (Kd.R_base ho0) hb); have n1_ := A8_ (Kd.R_lower (Kd.R_new' (Kd.R_newM (M := fun k_ => (P0_ k_ ∨ w.heap.size ≤ k_)) ho0 q8_3 (fun k_ h_ => .inr h_)) (Kd.R_lt (by (with_reducible repeat (first | apply Kd.R_alloc | apply Kd.R_drewN | apply Kd.R_drew)); exact HO0.out))) (below_size q8_2)); have n2_ := A8_ (Kept.below (S := (fun k_ => P0_ k_)) q8_5 hb); have n3_ := A8_ (below_step q8_2 hb); clear HO0 HK HB; have HO0 := n0_; have HO282 := n1_; have HK := n2_; have HB := n3_; clear n0_ n1_ n2_ n3_; (try clear hb); (try clear hb2); (try clear hk); (try clear hi); (try clear ho0)))
   go_meet
   case rel => exact ⟨_, (t280), H', ⟨by first | omega | exact Nat.le_refl _⟩, ⟨by (with_reducible repeat (first | apply Kd.R_alloc | apply Kd.R_drewN | apply Kd.R_drew)); exact Kd.R_mono HO282.out (fun _ hk => hk.1.1)⟩, ⟨by repeat (first | (with_reducible first | exact HK.out | apply Kept.alloc | apply Kept.drewN | apply Kept.drew) | exact HK.out)⟩, ⟨by repeat (first | (with_reducible first | exact HB.out | apply below_alloc | apply pw_below_drewN | apply below_drew1) | exact HB.out)⟩⟩
  ·rw [if_neg c5] at H
   have c5b0 : decide (64 < (l0.length : Int)) = false := decide_eq_false c5
   have c5b1 : decide (64 < l0.length) = false := decide_eq_false (by omega)
   clear c5
   (first | rw [c5b0] | (simp only [i64_w, i32_w]; rw [c5b0]) | rw [c5b1] | rw [c5b2] | skip)
   have H' := A8_ H
   clear H
   go_wp2
   go_meet
   case rel => exact ⟨_, (l0), H', ⟨by first | omega | exact Nat.le_refl _⟩, ⟨by (with_reducible repeat (first | apply Kd.R_alloc | apply Kd.R_drewN | apply Kd.R_drew)); exact HO0.out⟩, ⟨by repeat (first | (with_reducible first | exact HK.out | apply Kept.alloc | apply Kept.drewN | apply Kept.drew) | exact HK.out)⟩, ⟨by repeat (first | (with_reducible first | exact HB.out | apply below_alloc | apply pw_below_drewN | apply below_drew1) | exact HB.out)⟩⟩
 case rest =>
  clear HC3
  try clear c1
  try clear p2
  try clear c5
  try clear c5b0
  try clear c5b1
  try clear c5b2
  obtain ⟨kq, x0_2, HA, HJ2, HO_0, HK, HB⟩ := hcut
  cases kq with
  | zero => exact absurd HA.out (by simp [batonref03_Sum.j0])
  | succ kj2 =>
   have H := HA.out
   clear HA
   simp only [batonref03_Sum.j0] at H
   have H' := A8_ H
   clear H
   go_wp2
   go_loopg [5, 6, 7] kj2 (fun kq v5 v6 v7 w' => ∃ (x5_2 : List Int) (x6_2 : List Int) (x7_2 : Int), v7 = .int .i64 x7_2 ∧ Aside0 (batonref03_Sum.l0 kq x0_2 l1 x5_2 x6_2 x7_2 = some r) ∧ Aside0 (kq ≤ kj2) ∧ Aside0 (Kd.R (Kd.int .u8) 5 w' w0.heap.size (fun k_ => (P0_ k_ ∨ w.heap.size ≤ k_) ∧ some k_ ≠ (v5 : Value).ownBlock ∧ some k_ ≠ (v6 : Value).ownBlock) u0 x0_2) ∧ Aside0 (Kd.R (Kd.int .u8) 5 w' w0.heap.size (fun k_ => (P0_ k_ ∨ w.heap.size ≤ k_) ∧ some k_ ≠ (u0 : Value).ownBlock ∧ some k_ ≠ (v6 : Value).ownBlock) v5 x5_2) ∧ Aside0 (Kd.R (Kd.int .u8) 5 w' w0.heap.size (fun k_ => (P0_ k_ ∨ w.heap.size ≤ k_) ∧ some k_ ≠ (u0 : Value).ownBlock ∧ some k_ ≠ (v5 : Value).ownBlock) v6 x6_2) ∧ Aside0 (Kept w w' (fun k_ => P0_ k_)) ∧ Aside0 (Below w0.heap.size w0 w'))
   case atStart => exact ⟨(([] : List Int)), (([] : List Int)), (0), q8_8, H', ⟨Nat.le_refl _⟩, ⟨by (with_reducible repeat (first | apply Kd.R_alloc | apply Kd.R_drewN | apply Kd.R_drew)); exact Kd.R_mono HO_0.out (fun _ hk => ⟨hk, ⟨(by simp [Value.ownBlock]), (by simp [Value.ownBlock])⟩⟩)⟩, ⟨by first | exact Kd.R_nil _ _ _ _ _ | exact Kd.N_nil _ _ _ _ _ | exact Kd.V_nil _ _ _ _ _ | exact Kd.Q_nil _ _ _ _ _ | exact Kd.S_nil _ _ _ _ _⟩, ⟨by first | exact Kd.R_nil _ _ _ _ _ | exact Kd.N_nil _ _ _ _ _ | exact Kd.V_nil _ _ _ _ _ | exact Kd.Q_nil _ _ _ _ _ | exact Kd.S_nil _ _ _ _ _⟩, ⟨by repeat (first | (with_reducible first | exact HK.out | apply Kept.alloc | apply Kept.drewN | apply Kept.drew) | exact HK.out)⟩, ⟨by repeat (first | (with_reducible first | exact HB.out | apply below_alloc | apply pw_below_drewN | apply below_drew1) | exact HB.out)⟩⟩
   case round =>
    clear H'
    try clear c1
    try clear p2
    try clear c5
    try clear c5b0
    try clear c5b1
    try clear c5b2
    try clear p2
    obtain ⟨x5_2, x6_2, x7_2, rfl, HA, HK2, HO_0, HO_5, HO_6, HK, HB⟩ := hrel
    cases gk with
    | zero => exact absurd HA.out (by simp [batonref03_Sum.l0])
    | succ k2 =>
     have H := HA.out
     clear HA
     simp only [batonref03_Sum.l0] at H
     by_cases c8 : x7_2 < 64
     ·rw [if_pos c8] at H
      have c8b0 : decide (x7_2 < 64) = true := decide_eq_true c8
      clear c8
      by_cases c9 : x7_2 < (x0_2.length : Int)
      ·rw [if_pos c9] at H
       have c9b0 : decide (x7_2 < (x0_2.length : Int)) = true := decide_eq_true c9
       clear c9
       by_cases c10 : 0 ≤ x7_2
       ·rw [if_pos c10] at H
        have c10b0 : decide (0 ≤ x7_2) = true := decide_eq_true c10
        clear c10
        by_cases c11 : x5_2.length < 140737488355328
        ·rw [if_pos c11] at H
         have LMc11 := A8_ c11
         clear c11
         obtain ⟨y284, hy284⟩ : ∃ y_ : List Int, y_ = (x5_2 ++ [Go.bits .xor .u8 (rd x0_2 x7_2) 92]) := ⟨_, rfl⟩
         replace H : (if x6_2.length < 140737488355328 then (batonref03_Sum.l0 k2 x0_2 l1 y284 (x6_2 ++ [Go.bits .xor .u8 (rd x0_2 x7_2) 54]) (wrap64 (x7_2 + 1))) else (none)) = some r := by first | (rw [hy284]; with_reducible exact H) | (have H2_ := (Option.bind_some _ _).symm.trans H; rw [hy284]; with_reducible exact H2_) | (have H2_ := (Option.bind_some _ _).symm.trans H; with_reducible exact H2_) | with_reducible exact H | (rw [hy284]; exact H) | exact H
         have Ny284 := A8_ hy284
         clear hy284
         by_cases c12 : x6_2.length < 140737488355328
         ·rw [if_pos c12] at H
          have LMc12 := A8_ c12
          clear c12
          obtain ⟨y287, hy287⟩ : ∃ y_ : List Int, y_ = (x6_2 ++ [Go.bits .xor .u8 (rd x0_2 x7_2) 54]) := ⟨_, rfl⟩
          replace H : (batonref03_Sum.l0 k2 x0_2 l1 y284 y287 (wrap64 (x7_2 + 1))) = some r := by first | (rw [hy287]; with_reducible exact H) | (have H2_ := (Option.bind_some _ _).symm.trans H; rw [hy287]; with_reducible exact H2_) | (have H2_ := (Option.bind_some _ _).symm.trans H; with_reducible exact H2_) | with_reducible exact H | (rw [hy287]; exact H) | exact H
          have Ny287 := A8_ hy287
          clear hy287
          have H' := A8_ H
          clear H
          obtain ⟨Ao13, co13, eo13⟩ := Kd.R_slice HO_0.out
          subst eo13
          have p283 : 0 ≤ (x7_2 : Int) := of_decide_eq_true q8_10
          have q283 : x7_2 < (x0_2.length : Int) := of_decide_eq_true q8_10
          obtain ⟨ad283, e283, hx283_0⟩ := Kd.at_int (Kd.R_reads' HO_0.out).2.2 x7_2 p283 q283
          cases e283
          replace p283 := eq_true p283
          replace q283 := eq_true q283
          go_wp2_with (first | ((with_reducible refine gate_builtin (b := .append) (xs := #[.tmp 26, .tmp 29]) rfl ?_); at_builtin; refine Kd.R_append (Kd.int .u8) (w0 := w0) w0.heap.size rfl (.tmp 26) (.tmp 29) 22 5 (.int .u8 0) 1 rfl Try.underlying22 info5 rfl (by decide) (by omega) u5 x5_2 (Go.bits .xor .u8 (rd x0_2 x7_2) 92) [.int .u8 (Go.bits .xor .u8 (rd x0_2 x7_2) 92)] (fun k_ => (P0_ k_ ∨ w.heap.size ≤ k_) ∧ some k_ ≠ (.slice (some ad283) x0_2.length co13 : Value).ownBlock ∧ some k_ ≠ (u6 : Value).ownBlock) (fun _ => False) rfl rfl ?aP (fun _ hk => hk.elim) ?aF ?aO ?aB ?aS ?aL ?_; (case aP => exact rfl); (case aB => exact q8_2); (case aF => exact (fun k_ hk => ⟨(.inr (Nat.le_trans q8_3 hk)), Kd.fresh' (Kd.R_lt q8_6) k_ hk, Kd.fresh' (Kd.R_lt q8_9) k_ hk⟩)); (case aO => exact q8_4); (case aS => exact (below_size q8_2)); (case aL => have := LMc11.out; omega); intro v285 w14 ho hb hg hat; rw [← Ny284.out] at ho; have n0_ := A8_ (Kd.R_after (ok := (fun k_ => (P0_ k_ ∨ w.heap.size ≤ k_) ∧ some k_ ≠ (u6 : Value).ownBlock)) q8_20 hg hat); have n1_ := A8_ (Kd.R_after (ok := (fun k_ => (P0_ k_ ∨ w.heap.size ≤ k_) ∧ some k_ ≠ (.slice (some ad283) x0_2.length co13 : Value).ownBlock)) q8_17 hg hat); have n2_ := A8_ (hb); have n3_ := A8_ (Kept.of_grown (S := (fun k_ => P0_ k_)) hg q8_5 (fun k_ e_ => (HO_5.out.1 k_ e_).1)); have n4_ := A8_ (ho); clear HO_0 HO_6 HB HK HO_5; have HO_0 := n0_; have HO_6 := n1_; have HB := n2_; have HK := n3_; have HO286 := n4_; clear n0_ n1_ n2_ n3_ n4_; clear ho hb hg hat) | ((with_reducible refine gate_builtin (b := .append) (xs := #[.tmp 31, .tmp 34]) rfl ?_); at_builtin; refine Kd.R_append (Kd.int .u8) (w0 := w0) w0.heap.size rfl (.tmp 31) (.tmp 34) 22 5 (.int .u8 0) 1 rfl Try.underlying22 info5 rfl (by decide) (by omega) u6 x6_2 (Go.bits .xor .u8 (rd x0_2 x7_2) 54) [.int .u8 (Go.bits .xor .u8 (rd x0_2 x7_2) 54)] (fun k_ => (P0_ k_ ∨ w.heap.size ≤ k_) ∧ some k_ ≠ (.slice (some ad283) x0_2.length co13 : Value).ownBlock ∧ some k_ ≠ (v285 : Value).ownBlock) (fun _ => False) rfl rfl ?aP (fun _ hk => hk.elim) ?aF ?aO ?aB ?aS ?aL ?_; (case aP => exact rfl); (case aB => exact q8_2); (case aF => exact (fun k_ hk => ⟨(.inr (Nat.le_trans q8_3 hk)), Kd.fresh' (Kd.R_lt q8_6) k_ hk, Kd.fresh' (Kd.R_lt (by (with_reducible repeat (first | apply Kd.R_alloc | apply Kd.R_drewN | apply Kd.R_drew)); exact HO286.out)) k_ hk⟩)); (case aO => exact q8_18); (case aS => exact (below_size q8_2)); (case aL => have := LMc12.out; omega); intro v288 w15 ho hb hg hat; rw [← Ny287.out] at ho; have n0_ := A8_ (Kd.R_after (ok := (fun k_ => (P0_ k_ ∨ w.heap.size ≤ k_) ∧ some k_ ≠ (v285 : Value).ownBlock)) q8_19 hg hat); have n1_ := A8_ (Kd.R_after (ok := (fun k_ => (P0_ k_ ∨ w.heap.size ≤ k_) ∧ some k_ ≠ (.slice (some ad283) x0_2.length co13 : Value).ownBlock)) (by (with_reducible repeat (first | apply Kd.R_alloc | apply Kd.R_drewN | apply Kd.R_drew)); exact Kd.R_mono HO286.out (fun _ hk => ⟨⟨hk.1, hk.2.1⟩, hk.2.2⟩)) hg hat); have n2_ := A8_ (hb); have n3_ := A8_ (Kept.of_grown (S := (fun k_ => P0_ k_)) hg q8_5 (fun k_ e_ => (HO_6.out.1 k_ e_).1.1)); have n4_ := A8_ (ho); clear HO_0 HO286 HB HK HO_6; have HO_0 := n0_; have HO286 := n1_; have HB := n2_; have HK := n3_; have HO289 := n4_; clear n0_ n1_ n2_ n3_ n4_; clear ho hb hg hat))
          go_roundg k2
          case measure => have := HJ2.out; have := HK2.out; omega
          case rel => exact ⟨(y284), (y287), (wrap64 (x7_2 + 1)), q8_8, H', ⟨by have := HJ2.out; have := HK2.out; omega⟩, ⟨by (with_reducible repeat (first | apply Kd.R_alloc | apply Kd.R_drewN | apply Kd.R_drew)); exact Kd.R_mono HO_0.out (fun _ hk => ⟨hk.1.1, ⟨hk.1.2, hk.2⟩⟩)⟩, ⟨by (with_reducible repeat (first | apply Kd.R_alloc | apply Kd.R_drewN | apply Kd.R_drew)); exact Kd.R_mono HO286.out (fun _ hk => ⟨hk.1.1, ⟨hk.1.2, hk.2⟩⟩)⟩, ⟨by (with_reducible repeat (first | apply Kd.R_alloc | apply Kd.R_drewN | apply Kd.R_drew)); exact HO289.out⟩, ⟨by repeat (first | (with_reducible first | exact HK.out | apply Kept.alloc | apply Kept.drewN | apply Kept.drew) | exact HK.out)⟩, ⟨by repeat (first | (with_reducible first | exact HB.out | apply below_alloc | apply pw_below_drewN | apply below_drew1) | exact HB.out)⟩⟩
         ·rw [if_neg c12] at H
          exact absurd H (by simp)
        ·rw [if_neg c11] at H
         exact absurd H (by simp)
       ·rw [if_neg c10] at H
        exact absurd H (by simp)
      ·rw [if_neg c9] at H
       have c9b0 : decide (x7_2 < (x0_2.length : Int)) = false := decide_eq_false c9
       clear c9
       by_cases c16 : x5_2.length < 140737488355328
       ·rw [if_pos c16] at H
        have LMc16 := A8_ c16
        clear c16
        obtain ⟨y290, hy290⟩ : ∃ y_ : List Int, y_ = (x5_2 ++ [Go.bits .xor .u8 0 92]) := ⟨_, rfl⟩
        replace H : (if x6_2.length < 140737488355328 then (batonref03_Sum.l0 k2 x0_2 l1 y290 (x6_2 ++ [Go.bits .xor .u8 0 54]) (wrap64 (x7_2 + 1))) else (none)) = some r := by first | (rw [hy290]; with_reducible exact H) | (have H2_ := (Option.bind_some _ _).symm.trans H; rw [hy290]; with_reducible exact H2_) | (have H2_ := (Option.bind_some _ _).symm.trans H; with_reducible exact H2_) | with_reducible exact H | (rw [hy290]; exact H) | exact H
        have Ny290 := A8_ hy290
        clear hy290
        by_cases c17 : x6_2.length < 140737488355328
        ·rw [if_pos c17] at H
         have LMc17 := A8_ c17
         clear c17
         obtain ⟨y293, hy293⟩ : ∃ y_ : List Int, y_ = (x6_2 ++ [Go.bits .xor .u8 0 54]) := ⟨_, rfl⟩
         replace H : (batonref03_Sum.l0 k2 x0_2 l1 y290 y293 (wrap64 (x7_2 + 1))) = some r := by first | (rw [hy293]; with_reducible exact H) | (have H2_ := (Option.bind_some _ _).symm.trans H; rw [hy293]; with_reducible exact H2_) | (have H2_ := (Option.bind_some _ _).symm.trans H; with_reducible exact H2_) | with_reducible exact H | (rw [hy293]; exact H) | exact H
         have Ny293 := A8_ hy293
         clear hy293
         have H' := A8_ H
         clear H
         obtain ⟨Ao18, co18, eo18⟩ := Kd.R_slice HO_0.out
         subst eo18
         go_wp2_with (first | ((with_reducible refine gate_builtin (b := .append) (xs := #[.tmp 26, .tmp 29]) rfl ?_); at_builtin; refine Kd.R_append (Kd.int .u8) (w0 := w0) w0.heap.size rfl (.tmp 26) (.tmp 29) 22 5 (.int .u8 0) 1 rfl Try.underlying22 info5 rfl (by decide) (by omega) u5 x5_2 (Go.bits .xor .u8 0 92) [.int .u8 (Go.bits .xor .u8 0 92)] (fun k_ => (P0_ k_ ∨ w.heap.size ≤ k_) ∧ some k_ ≠ (.slice Ao18 x0_2.length co18 : Value).ownBlock ∧ some k_ ≠ (u6 : Value).ownBlock) (fun _ => False) rfl rfl ?aP (fun _ hk => hk.elim) ?aF ?aO ?aB ?aS ?aL ?_; (case aP => exact rfl); (case aB => exact q8_2); (case aF => exact (fun k_ hk => ⟨(.inr (Nat.le_trans q8_3 hk)), Kd.fresh' (Kd.R_lt q8_6) k_ hk, Kd.fresh' (Kd.R_lt q8_9) k_ hk⟩)); (case aO => exact q8_4); (case aS => exact (below_size q8_2)); (case aL => have := LMc16.out; omega); intro v291 w19 ho hb hg hat; rw [← Ny290.out] at ho; have n0_ := A8_ (Kd.R_after (ok := (fun k_ => (P0_ k_ ∨ w.heap.size ≤ k_) ∧ some k_ ≠ (u6 : Value).ownBlock)) q8_20 hg hat); have n1_ := A8_ (Kd.R_after (ok := (fun k_ => (P0_ k_ ∨ w.heap.size ≤ k_) ∧ some k_ ≠ (.slice Ao18 x0_2.length co18 : Value).ownBlock)) q8_17 hg hat); have n2_ := A8_ (hb); have n3_ := A8_ (Kept.of_grown (S := (fun k_ => P0_ k_)) hg q8_5 (fun k_ e_ => (HO_5.out.1 k_ e_).1)); have n4_ := A8_ (ho); clear HO_0 HO_6 HB HK HO_5; have HO_0 := n0_; have HO_6 := n1_; have HB := n2_; have HK := n3_; have HO292 := n4_; clear n0_ n1_ n2_ n3_ n4_; clear ho hb hg hat) | ((with_reducible refine gate_builtin (b := .append) (xs := #[.tmp 31, .tmp 34]) rfl ?_); at_builtin; refine Kd.R_append (Kd.int .u8) (w0 := w0) w0.heap.size rfl (.tmp 31) (.tmp 34) 22 5 (.int .u8 0) 1 rfl Try.underlying22 info5 rfl (by decide) (by omega) u6 x6_2 (Go.bits .xor .u8 0 54) [.int .u8 (Go.bits .xor .u8 0 54)] (fun k_ => (P0_ k_ ∨ w.heap.size ≤ k_) ∧ some k_ ≠ (.slice Ao18 x0_2.length co18 : Value).ownBlock ∧ some k_ ≠ (v291 : Value).ownBlock) (fun _ => False) rfl rfl ?aP (fun _ hk => hk.elim) ?aF ?aO ?aB ?aS ?aL ?_; (case aP => exact rfl); (case aB => exact q8_2); (case aF => exact (fun k_ hk => ⟨(.inr (Nat.le_trans q8_3 hk)), Kd.fresh' (Kd.R_lt q8_6) k_ hk, Kd.fresh' (Kd.R_lt (by (with_reducible repeat (first | apply Kd.R_alloc | apply Kd.R_drewN | apply Kd.R_drew)); exact HO292.out)) k_ hk⟩)); (case aO => exact q8_18); (case aS => exact (below_size q8_2)); (case aL => have := LMc17.out; omega); intro v294 w20 ho hb hg hat; rw [← Ny293.out] at ho; have n0_ := A8_ (Kd.R_after (ok := (fun k_ => (P0_ k_ ∨ w.heap.size ≤ k_) ∧ some k_ ≠ (v291 : Value).ownBlock)) q8_19 hg hat); have n1_ := A8_ (Kd.R_after (ok := (fun k_ => (P0_ k_ ∨ w.heap.size ≤ k_) ∧ some k_ ≠ (.slice Ao18 x0_2.length co18 : Value).ownBlock)) (by (with_reducible repeat (first | apply Kd.R_alloc | apply Kd.R_drewN | apply Kd.R_drew)); exact Kd.R_mono HO292.out (fun _ hk => ⟨⟨hk.1, hk.2.1⟩, hk.2.2⟩)) hg hat); have n2_ := A8_ (hb); have n3_ := A8_ (Kept.of_grown (S := (fun k_ => P0_ k_)) hg q8_5 (fun k_ e_ => (HO_6.out.1 k_ e_).1.1)); have n4_ := A8_ (ho); clear HO_0 HO292 HB HK HO_6; have HO_0 := n0_; have HO292 := n1_; have HB := n2_; have HK := n3_; have HO295 := n4_; clear n0_ n1_ n2_ n3_ n4_; clear ho hb hg hat))
         go_roundg k2
         case measure => have := HJ2.out; have := HK2.out; omega
         case rel => exact ⟨(y290), (y293), (wrap64 (x7_2 + 1)), q8_8, H', ⟨by have := HJ2.out; have := HK2.out; omega⟩, ⟨by (with_reducible repeat (first | apply Kd.R_alloc | apply Kd.R_drewN | apply Kd.R_drew)); exact Kd.R_mono HO_0.out (fun _ hk => ⟨hk.1.1, ⟨hk.1.2, hk.2⟩⟩)⟩, ⟨by (with_reducible repeat (first | apply Kd.R_alloc | apply Kd.R_drewN | apply Kd.R_drew)); exact Kd.R_mono HO292.out (fun _ hk => ⟨hk.1.1, ⟨hk.1.2, hk.2⟩⟩)⟩, ⟨by (with_reducible repeat (first | apply Kd.R_alloc | apply Kd.R_drewN | apply Kd.R_drew)); exact HO295.out⟩, ⟨by repeat (first | (with_reducible first | exact HK.out | apply Kept.alloc | apply Kept.drewN | apply Kept.drew) | exact HK.out)⟩, ⟨by repeat (first | (with_reducible first | exact HB.out | apply below_alloc | apply pw_below_drewN | apply below_drew1) | exact HB.out)⟩⟩
        ·rw [if_neg c17] at H
         exact absurd H (by simp)
       ·rw [if_neg c16] at H
        exact absurd H (by simp)
     ·rw [if_neg c8] at H
      have c8b0 : decide (x7_2 < 64) = false := decide_eq_false c8
      clear c8
      by_cases c21 : x6_2.length + l1.length < 140737488355328
      ·rw [if_pos c21] at H
       have LMc21 := A8_ c21
       clear c21
       obtain ⟨y296, hy296⟩ : ∃ y_ : List Int, y_ = (x6_2 ++ l1) := ⟨_, rfl⟩
       replace H : ((batonref02_Sum.f k2 y296).bind fun t299 => (if x5_2.length + t299.length < 140737488355328 then ((batonref02_Sum.f k2 (x5_2 ++ t299)).bind fun t305 => (some t305)) else (none))) = some r := by first | (rw [hy296]; with_reducible exact H) | (have H2_ := (Option.bind_some _ _).symm.trans H; rw [hy296]; with_reducible exact H2_) | (have H2_ := (Option.bind_some _ _).symm.trans H; with_reducible exact H2_) | with_reducible exact H | (rw [hy296]; exact H) | exact H
       have Ny296 := A8_ hy296
       clear hy296
       replace H := Option.bind_eq_some_iff.mp H
       obtain ⟨t299, A220, H⟩ := H
       replace H : (if x5_2.length + t299.length < 140737488355328 then ((batonref02_Sum.f k2 (x5_2 ++ t299)).bind fun t305 => (some t305)) else (none)) = some r := H
       have A22 := A8_ A220
       clear A220
       by_cases c23 : x5_2.length + t299.length < 140737488355328
       ·rw [if_pos c23] at H
        have LMc23 := A8_ c23
        clear c23
        obtain ⟨y302, hy302⟩ : ∃ y_ : List Int, y_ = (x5_2 ++ t299) := ⟨_, rfl⟩
        replace H : ((batonref02_Sum.f k2 y302).bind fun t305 => (some t305)) = some r := by first | (rw [hy302]; with_reducible exact H) | (have H2_ := (Option.bind_some _ _).symm.trans H; rw [hy302]; with_reducible exact H2_) | (have H2_ := (Option.bind_some _ _).symm.trans H; with_reducible exact H2_) | with_reducible exact H | (rw [hy302]; exact H) | exact H
        have Ny302 := A8_ hy302
        clear hy302
        replace H := Option.bind_eq_some_iff.mp H
        obtain ⟨t305, A240, H⟩ := H
        replace H : (some t305) = some r := H
        have A24 := A8_ A240
        clear A240
        obtain rfl := Option.some.inj H
        go_wp2_with (first | ((with_reducible refine gate_builtin (b := .append) (xs := #[.tmp 37, .tmp 38]) rfl ?_); at_builtin; refine Kd.R_append_rows (Kd.int .u8) (w0 := w0) w0.heap.size rfl (.tmp 37) (.tmp 38) 22 5 (.int .u8 0) 1 rfl Try.underlying22 info5 rfl (by decide) (by omega) u6 x6_2 l1 _ _ _ (fun k_ => (P0_ k_ ∨ w.heap.size ≤ k_) ∧ some k_ ≠ (u0 : Value).ownBlock ∧ some k_ ≠ (u5 : Value).ownBlock) (fun _ => False) rfl rfl ?aO ?aR (fun _ _ h => h) (fun _ h => h.elim) ?aF ?aB ?aS ?aL ?_; (case aR => exact Kd.C_kept_now HR1.out q8_5); (case aB => exact q8_2); (case aF => exact (fun k_ hk => ⟨(.inr (Nat.le_trans q8_3 hk)), Kd.fresh' (Kd.R_lt q8_6) k_ hk, Kd.fresh' (Kd.R_lt q8_4) k_ hk⟩)); (case aO => exact q8_9); (case aS => exact (below_size q8_2)); (case aL => have := LMc21.out; omega); intro v297 w25 ho hb hg hat; rw [← Ny296.out] at ho; have n0_ := A8_ (Kd.R_after (ok := (fun k_ => (P0_ k_ ∨ w.heap.size ≤ k_) ∧ some k_ ≠ (u5 : Value).ownBlock)) (by (with_reducible repeat (first | apply Kd.R_alloc | apply Kd.R_drewN | apply Kd.R_drew)); exact Kd.R_mono HO_0.out (fun _ hk => ⟨⟨hk.1, hk.2.1⟩, hk.2.2⟩)) hg hat); have n1_ := A8_ (Kd.R_after (ok := (fun k_ => (P0_ k_ ∨ w.heap.size ≤ k_) ∧ some k_ ≠ (u0 : Value).ownBlock)) (by (with_reducible repeat (first | apply Kd.R_alloc | apply Kd.R_drewN | apply Kd.R_drew)); exact Kd.R_mono HO_5.out (fun _ hk => ⟨⟨hk.1, hk.2.1⟩, hk.2.2⟩)) hg hat); have n2_ := A8_ (hb); have n3_ := A8_ (Kept.of_grown (S := (fun k_ => P0_ k_)) hg q8_5 (fun k_ e_ => (HO_6.out.1 k_ e_).1)); have n4_ := A8_ (ho); clear HO_0 HO_5 HB HK HO_6; have HO_0 := n0_; have HO_5 := n1_; have HB := n2_; have HK := n3_; have HO298 := n4_; clear n0_ n1_ n2_ n3_ n4_; clear ho hb hg hat; obtain ⟨Ao26, co26, eo26⟩ := Kd.R_slice HO298.out; subst eo26) | ((with_reducible refine gate_callee (f := 111) rfl ?_); refine goesL_ (some 40) rfl rfl Try.func111 (by kernel_rfl) rfl #[.slice Ao26 y296.length co26] rfl q8_7 ?_; (with_reducible refine (batonref02_Sum.calls k2 _ _ y296 t299 _ ?side1 ?side2 A22.out).mono ?_); (case side1 => repeat (first | exact (Kd.R_reads' HO298.out).2.2 | (with_reducible refine Kd.C_alloc ?_ _) | (with_reducible refine Kd.C_drewN ?_ _) | (with_reducible refine Kd.C_drew ?_))); (case side2 => exact (Kd.R_reads' HO298.out).2.1); rintro e w27 ⟨v300, rfl, ho0, hb⟩; refine ⟨_, rfl, ?_⟩; have n0_ := A8_ (Kd.R_elder' q8_6 (Kd.R_base ho0) hb); have n1_ := A8_ (Kd.R_elder' q8_4 (Kd.R_base ho0) hb); have n2_ := A8_ (Kd.R_elder' q8_11 (Kd.R_base ho0) hb); have n3_ := A8_ (Kd.R_lower (Kd.R_new' (Kd.R_new' (Kd.R_new' (Kd.R_newM (M := fun k_ => (P0_ k_ ∨ w.heap.size ≤ k_)) ho0 q8_3 (fun k_ h_ => .inr h_)) (Kd.R_lt q8_6)) (Kd.R_lt q8_4)) (Kd.R_lt q8_11)) (below_size q8_2)); have n4_ := A8_ (Kept.below (S := (fun k_ => P0_ k_)) q8_5 hb); have n5_ := A8_ (below_step q8_2 hb); clear HO_0 HO_5 HO298 HK HB; have HO_0 := n0_; have HO_5 := n1_; have HO298 := n2_; have HO301 := n3_; have HK := n4_; have HB := n5_; clear n0_ n1_ n2_ n3_ n4_ n5_; (try clear hb); (try clear hb2); (try clear hk); (try clear hi); (try clear ho0); obtain ⟨Ao29, co29, eo29⟩ := Kd.R_slice HO301.out; subst eo29) | ((with_reducible refine gate_builtin (b := .append) (xs := #[.tmp 36, .tmp 40]) rfl ?_); at_builtin; refine Kd.R_append_rows (Kd.int .u8) (w0 := w0) w0.heap.size rfl (.tmp 36) (.tmp 40) 22 5 (.int .u8 0) 1 rfl Try.underlying22 info5 rfl (by decide) (by omega) u5 x5_2 t299 _ _ _ (fun k_ => (P0_ k_ ∨ w.heap.size ≤ k_) ∧ some k_ ≠ (u0 : Value).ownBlock ∧ some k_ ≠ (.slice Ao26 y296.length co26 : Value).ownBlock ∧ some k_ ≠ (.slice Ao29 t299.length co29 : Value).ownBlock) (fun _ => False) rfl rfl ?aO ?aR (fun _ _ h => h) (fun _ h => h.elim) ?aF ?aB ?aS ?aL ?_; (case aR => repeat (first | exact (Kd.R_reads' HO301.out).2.2 | (with_reducible refine Kd.C_alloc ?_ _) | (with_reducible refine Kd.C_drewN ?_ _) | (with_reducible refine Kd.C_drew ?_))); (case aB => exact q8_2); (case aF => exact (fun k_ hk => ⟨(.inr (Nat.le_trans q8_3 hk)), Kd.fresh' (Kd.R_lt q8_6) k_ hk, Kd.fresh' (Kd.R_lt q8_11) k_ hk, Kd.fresh' (Kd.R_lt q8_14) k_ hk⟩)); (case aO => exact (by (with_reducible repeat (first | apply Kd.R_alloc | apply Kd.R_drewN | apply Kd.R_drew)); exact Kd.R_mono HO_5.out (fun _ hk => ⟨hk.1.1.1, ⟨hk.1.1.2, ⟨hk.1.2, hk.2⟩⟩⟩))); (case aS => exact (below_size q8_2)); (case aL => have := LMc23.out; omega); intro v303 w28 ho hb hg hat; rw [← Ny302.out] at ho; have n0_ := A8_ (Kd.R_after (ok := (fun k_ => (P0_ k_ ∨ w.heap.size ≤ k_) ∧ some k_ ≠ (.slice Ao26 y296.length co26 : Value).ownBlock ∧ some k_ ≠ (.slice Ao29 t299.length co29 : Value).ownBlock)) (by (with_reducible repeat (first | apply Kd.R_alloc | apply Kd.R_drewN | apply Kd.R_drew)); exact Kd.R_mono HO_0.out (fun _ hk => ⟨⟨hk.1.1.1, ⟨hk.1.2, hk.2⟩⟩, hk.1.1.2⟩)) hg hat); have n1_ := A8_ (Kd.R_after (ok := (fun k_ => (P0_ k_ ∨ w.heap.size ≤ k_) ∧ some k_ ≠ (u0 : Value).ownBlock ∧ some k_ ≠ (.slice Ao29 t299.length co29 : Value).ownBlock)) (by (with_reducible repeat (first | apply Kd.R_alloc | apply Kd.R_drewN | apply Kd.R_drew)); exact Kd.R_mono HO298.out (fun _ hk => ⟨⟨hk.1.1, ⟨hk.1.2.1, hk.2⟩⟩, hk.1.2.2⟩)) hg hat); have n2_ := A8_ (Kd.R_after (ok := (fun k_ => (P0_ k_ ∨ w.heap.size ≤ k_) ∧ some k_ ≠ (u0 : Value).ownBlock ∧ some k_ ≠ (.slice Ao26 y296.length co26 : Value).ownBlock)) (by (with_reducible repeat (first | apply Kd.R_alloc | apply Kd.R_drewN | apply Kd.R_drew)); exact Kd.R_mono HO301.out (fun _ hk => ⟨⟨hk.1.1.1.1, ⟨hk.1.1.2, hk.2⟩⟩, hk.1.2⟩)) hg hat); have n3_ := A8_ (hb); have n4_ := A8_ (Kept.of_grown (S := (fun k_ => P0_ k_)) hg q8_5 (fun k_ e_ => (HO_5.out.1 k_ e_).1.1.1)); have n5_ := A8_ (ho); clear HO_0 HO298 HO301 HB HK HO_5; have HO_0 := n0_; have HO298 := n1_; have HO301 := n2_; have HB := n3_; have HK := n4_; have HO304 := n5_; clear n0_ n1_ n2_ n3_ n4_ n5_; clear ho hb hg hat; obtain ⟨Ao30, co30, eo30⟩ := Kd.R_slice HO304.out; subst eo30) | ((with_reducible refine gate_callee (f := 111) rfl ?_); refine goesL_ (some 42) rfl rfl Try.func111 (by kernel_rfl) rfl #[.slice Ao30 y302.length co30] rfl q8_7 ?_; (with_reducible refine (batonref02_Sum.calls k2 _ _ y302 t305 _ ?side1 ?side2 A24.out).mono ?_); (case side1 => repeat (first | exact (Kd.R_reads' HO304.out).2.2 | (with_reducible refine Kd.C_alloc ?_ _) | (with_reducible refine Kd.C_drewN ?_ _) | (with_reducible refine Kd.C_drew ?_))); (case side2 => exact (Kd.R_reads' HO304.out).2.1); rintro e w31 ⟨v306, rfl, ho0, hb⟩; refine ⟨_, rfl, ?_⟩; have n0_ := A8_ (Kd.R_elder' q8_6 (Kd.R_base ho0) hb); have n1_ := A8_ (Kd.R_elder' q8_11 (Kd.R_base ho0) hb); have n2_ := A8_ (Kd.R_elder' q8_14 (Kd.R_base ho0) hb); have n3_ := A8_ (Kd.R_elder' (by (with_reducible repeat (first | apply Kd.R_alloc | apply Kd.R_drewN | apply Kd.R_drew)); exact HO304.out) (Kd.R_base ho0) hb); have n4_ := A8_ (Kd.R_lower (Kd.R_new' (Kd.R_new' (Kd.R_new' (Kd.R_new' (Kd.R_newM (M := fun k_ => (P0_ k_ ∨ w.heap.size ≤ k_)) ho0 q8_3 (fun k_ h_ => .inr h_)) (Kd.R_lt q8_6)) (Kd.R_lt q8_11)) (Kd.R_lt q8_14)) (Kd.R_lt (by (with_reducible repeat (first | apply Kd.R_alloc | apply Kd.R_drewN | apply Kd.R_drew)); exact HO304.out))) (below_size q8_2)); have n5_ := A8_ (Kept.below (S := (fun k_ => P0_ k_)) q8_5 hb); have n6_ := A8_ (below_step q8_2 hb); clear HO_0 HO298 HO301 HO304 HK HB; have HO_0 := n0_; have HO298 := n1_; have HO301 := n2_; have HO304 := n3_; have HO307 := n4_; have HK := n5_; have HB := n6_; clear n0_ n1_ n2_ n3_ n4_ n5_ n6_; (try clear hb); (try clear hb2); (try clear hk); (try clear hi); (try clear ho0)))
        go_ret
        exact ⟨_, by first | rfl | (simp [errW_none, errW_some] <;> rfl) | (simp [*, errW_none, errW_some] <;> rfl), by (with_reducible repeat (first | apply Kd.R_alloc | apply Kd.R_drewN | apply Kd.R_drew)); exact Kd.R_mono HO307.out (fun _ hk => hk.1.1.1.1.1), by repeat (first | (with_reducible first | exact HB.out | apply below_alloc | apply pw_below_drewN | apply below_drew1) | exact HB.out), by repeat (first | (with_reducible first | exact HK.out | apply Kept.alloc | apply Kept.drewN | apply Kept.drew) | exact HK.out)⟩
       ·rw [if_neg c23] at H
        exact absurd H (by simp)
      ·rw [if_neg c21] at H
       exact absurd H (by simp)

/-! ### batonref04_Of: function 96 -/
mutual
def batonref04_Of.l0 : Nat → ByteArray → List Int → List Int → Int → Option (List Int)
 | 0, _, _, _, _ => none
 | k + 1, x0, x1, x5, x6 => if x6 < (x0.size : Int) then (if 0 ≤ x6 then (if x5.length < 140737488355328 then (batonref04_Of.l0 k x0 x1 (x5 ++ [bt x0 x6]) (wrap64 (x6 + 1))) else (none)) else (none)) else (if x5.length < 140737488355328 then (batonref04_Of.l1 k x1 (x5 ++ [0]) 0) else (none))
def batonref04_Of.l1 : Nat → List Int → List Int → Int → Option (List Int)
 | 0, _, _, _ => none
 | k + 1, x1, x5, x7 => if x7 < (x1.length : Int) then (if 0 ≤ x7 then (batonref04_Of.l2 k x1 x5 x7 (IntKind.u64.wrap ((IntKind.u64.wrap (rd x1 x7)) + 9223372036854775808)) ([] : List Int) 0) else (none)) else (some x5)
def batonref04_Of.l2 : Nat → List Int → List Int → Int → Int → List Int → Int → Option (List Int)
 | 0, _, _, _, _, _, _ => none
 | k + 1, x1, x5, x7, x8, x9, x10 => if x10 < 8 then ((some (([(Int.tmod x8 256) % 256] : List Int) : List Int)).bind fun y315 => (if y315.length + x9.length < 140737488355328 then (batonref04_Of.l2 k x1 x5 x7 (IntKind.u64.wrap (Int.tdiv x8 256)) (y315 ++ x9) (wrap64 (x10 + 1))) else (none))) else (if x5.length + x9.length < 140737488355328 then (batonref04_Of.l1 k x1 (x5 ++ x9) (wrap64 (x7 + 1))) else (none))
end
def batonref04_Of.f (k : Nat) (a0 : ByteArray) (l1 : List Int) : Option (List Int) := batonref04_Of.l0 k a0 l1 ([] : List Int) 0
theorem batonref04_Of.mono_l : ∀ k, (∀ y0 y1 y2 y3, LeO (batonref04_Of.l0 k y0 y1 y2 y3) (batonref04_Of.l0 (k + 1) y0 y1 y2 y3)) ∧ (∀ y0 y1 y2, LeO (batonref04_Of.l1 k y0 y1 y2) (batonref04_Of.l1 (k + 1) y0 y1 y2)) ∧ (∀ y0 y1 y2 y3 y4 y5, LeO (batonref04_Of.l2 k y0 y1 y2 y3 y4 y5) (batonref04_Of.l2 (k + 1) y0 y1 y2 y3 y4 y5))
 | 0 => ⟨fun _ _ _ _ r h => by simp [batonref04_Of.l0] at h, fun _ _ _ r h => by simp [batonref04_Of.l1] at h, fun _ _ _ _ _ _ r h => by simp [batonref04_Of.l2] at h⟩
 | k + 1 => by
  obtain ⟨ih0, ih1, ih2⟩ := batonref04_Of.mono_l k
  refine ⟨?_, ?_, ?_⟩
  ·intro y0 y1 y2 y3
   unfold batonref04_Of.l0
   repeat' first
   | (with_reducible exact ih0 _ _ _ _)
   | (with_reducible exact ih1 _ _ _)
   | (with_reducible exact ih2 _ _ _ _ _ _)
   | (with_reducible exact LeO.refl _)
   | (with_reducible exact LeO.none _)
   | (with_reducible refine LeO.ite ?_ ?_)
   | (with_reducible refine LeO.bind ?_ (fun _ => ?_))
   | exact ih0 _ _ _ _
   | exact ih1 _ _ _
   | exact ih2 _ _ _ _ _ _
   | exact LeO.none _
   | refine LeO.ite ?_ ?_
   | refine LeO.bind ?_ (fun _ => ?_)
  ·intro y0 y1 y2
   unfold batonref04_Of.l1
   repeat' first
   | (with_reducible exact ih0 _ _ _ _)
   | (with_reducible exact ih1 _ _ _)
   | (with_reducible exact ih2 _ _ _ _ _ _)
   | (with_reducible exact LeO.refl _)
   | (with_reducible exact LeO.none _)
   | (with_reducible refine LeO.ite ?_ ?_)
   | (with_reducible refine LeO.bind ?_ (fun _ => ?_))
   | exact ih0 _ _ _ _
   | exact ih1 _ _ _
   | exact ih2 _ _ _ _ _ _
   | exact LeO.none _
   | refine LeO.ite ?_ ?_
   | refine LeO.bind ?_ (fun _ => ?_)
  ·intro y0 y1 y2 y3 y4 y5
   unfold batonref04_Of.l2
   repeat' first
   | (with_reducible exact ih0 _ _ _ _)
   | (with_reducible exact ih1 _ _ _)
   | (with_reducible exact ih2 _ _ _ _ _ _)
   | (with_reducible exact LeO.refl _)
   | (with_reducible exact LeO.none _)
   | (with_reducible refine LeO.ite ?_ ?_)
   | (with_reducible refine LeO.bind ?_ (fun _ => ?_))
   | exact ih0 _ _ _ _
   | exact ih1 _ _ _
   | exact ih2 _ _ _ _ _ _
   | exact LeO.none _
   | refine LeO.ite ?_ ?_
   | refine LeO.bind ?_ (fun _ => ?_)
theorem batonref04_Of.mono : ∀ a0 a1 k, LeO (batonref04_Of.f k a0 a1) (batonref04_Of.f (k + 1) a0 a1) := by
 intro a0 a1 k
 obtain ⟨ih0, ih1, ih2⟩ := batonref04_Of.mono_l k
 unfold batonref04_Of.f
 repeat' first
   | (with_reducible exact ih0 _ _ _ _)
   | (with_reducible exact ih1 _ _ _)
   | (with_reducible exact ih2 _ _ _ _ _ _)
   | (with_reducible exact LeO.refl _)
   | (with_reducible exact LeO.none _)
   | (with_reducible refine LeO.ite ?_ ?_)
   | (with_reducible refine LeO.bind ?_ (fun _ => ?_))
   | exact ih0 _ _ _ _
   | exact ih1 _ _ _
   | exact ih2 _ _ _ _ _ _
   | exact LeO.none _
   | refine LeO.ite ?_ ?_
   | refine LeO.bind ?_ (fun _ => ?_)
set_option maxHeartbeats 8000000 in
set_option maxRecDepth 100000 in
theorem batonref04_Of.calls (k : Nat) (a0 : ByteArray) (A1 : Option Addr) (c1 : Nat) (l1 : List Int) (r : List Int) (w : World) (hr1 : Kd.C (Kd.int .i64) w A1 l1.length l1) (hc1 : l1.length ≤ c1) (h : batonref04_Of.f k a0 l1 = some r) :
  Calls Try.prog 96 #[.string a0, .slice A1 l1.length c1] w fun e w' => ∃ v0_ : Value, e = .returned (v0_) ∧ Kd.R (Kd.int .u8) 5 w' w.heap.size (fun _ => True) v0_ r ∧ Below w.heap.size w w' := by
 have HR1 := A8_ hr1
 have HC1 := A8_ hc1
 clear hr1 hc1
 have HB := A8_ (Below.refl w.heap.size w)
 have H : (batonref04_Of.l0 k a0 l1 ([] : List Int) 0) = some r := h
 clear h
 have H' := A8_ H
 clear H
 go_enter Try.func96, Try.ntmps96
 go_wp2
 go_loopg [5, 6] k (fun kq v5 v6 w' => ∃ (x5_1 : List Int) (x6_1 : Int), v6 = .int .i64 x6_1 ∧ Aside0 (batonref04_Of.l0 kq a0 l1 x5_1 x6_1 = some r) ∧ Aside0 (kq ≤ k) ∧ Aside0 (Kd.R (Kd.int .u8) 5 w' w.heap.size (fun _ => True) v5 x5_1) ∧ Aside0 (Below w.heap.size w w'))
 case atStart => exact ⟨(([] : List Int)), (0), q8_8, H', ⟨Nat.le_refl _⟩, ⟨by first | exact Kd.R_nil _ _ _ _ _ | exact Kd.N_nil _ _ _ _ _ | exact Kd.V_nil _ _ _ _ _ | exact Kd.Q_nil _ _ _ _ _ | exact Kd.S_nil _ _ _ _ _⟩, ⟨by repeat (first | (with_reducible first | exact HB.out | apply below_alloc | apply pw_below_drewN | apply below_drew1) | exact HB.out)⟩⟩
 case round =>
  clear H'
  try clear c1
  try clear p2
  obtain ⟨x5_1, x6_1, rfl, HA, HK1, HO_5, HB⟩ := hrel
  cases gk with
  | zero => exact absurd HA.out (by simp [batonref04_Of.l0])
  | succ k1 =>
   have H := HA.out
   clear HA
   simp only [batonref04_Of.l0] at H
   by_cases c3 : x6_1 < (a0.size : Int)
   ·rw [if_pos c3] at H
    have c3b0 : decide (x6_1 < (a0.size : Int)) = true := decide_eq_true c3
    clear c3
    by_cases c4 : 0 ≤ x6_1
    ·rw [if_pos c4] at H
     have c4b0 : decide (0 ≤ x6_1) = true := decide_eq_true c4
     clear c4
     by_cases c6 : x5_1.length < 140737488355328
     ·rw [if_pos c6] at H
      have LMc6 := A8_ c6
      clear c6
      obtain ⟨y308, hy308⟩ : ∃ y_ : List Int, y_ = (x5_1 ++ [bt a0 x6_1]) := ⟨_, rfl⟩
      replace H : (batonref04_Of.l0 k1 a0 l1 y308 (wrap64 (x6_1 + 1))) = some r := by first | (rw [hy308]; with_reducible exact H) | (have H2_ := (Option.bind_some _ _).symm.trans H; rw [hy308]; with_reducible exact H2_) | (have H2_ := (Option.bind_some _ _).symm.trans H; with_reducible exact H2_) | with_reducible exact H | (rw [hy308]; exact H) | exact H
      have Ny308 := A8_ hy308
      clear hy308
      have H' := A8_ H
      clear H
      have p5 : 0 ≤ (x6_1 : Int) := of_decide_eq_true q8_10
      have q5 : x6_1 < (a0.size : Int) := of_decide_eq_true q8_10
      have hx5 := bt_at a0 x6_1
      replace p5 := eq_true p5
      replace q5 := eq_true q5
      go_wp2_with (first | ((with_reducible refine gate_builtin (b := .append) (xs := #[.tmp 17, .tmp 21]) rfl ?_); at_builtin; refine Kd.R_append (Kd.int .u8) (w0 := w) w.heap.size rfl (.tmp 17) (.tmp 21) 22 5 (.int .u8 0) 1 rfl Try.underlying22 info5 rfl (by decide) (by omega) u5 x5_1 (bt a0 x6_1) [.int .u8 (bt a0 x6_1)] (fun _ => True) (fun _ => False) rfl rfl ?aP (fun _ hk => hk.elim) ?aF ?aO ?aB ?aS ?aL ?_; (case aP => exact rfl); (case aB => exact q8_2); (case aF => exact (fun _ _ => trivial)); (case aO => exact q8_4); (case aS => exact (below_size q8_2)); (case aL => have := LMc6.out; omega); intro v309 w7 ho hb hg hat; rw [← Ny308.out] at ho; have n0_ := A8_ (hb); have n1_ := A8_ (ho); clear HB HO_5; have HB := n0_; have HO310 := n1_; clear n0_ n1_; clear ho hb hg hat))
      go_roundg k1
      case measure => have := HK1.out; omega
      case rel => exact ⟨(y308), (wrap64 (x6_1 + 1)), q8_8, H', ⟨by have := HK1.out; omega⟩, ⟨by (with_reducible repeat (first | apply Kd.R_alloc | apply Kd.R_drewN | apply Kd.R_drew)); exact HO310.out⟩, ⟨by repeat (first | (with_reducible first | exact HB.out | apply below_alloc | apply pw_below_drewN | apply below_drew1) | exact HB.out)⟩⟩
     ·rw [if_neg c6] at H
      exact absurd H (by simp)
    ·rw [if_neg c4] at H
     exact absurd H (by simp)
   ·rw [if_neg c3] at H
    have c3b0 : decide (x6_1 < (a0.size : Int)) = false := decide_eq_false c3
    clear c3
    by_cases c8 : x5_1.length < 140737488355328
    ·rw [if_pos c8] at H
     have LMc8 := A8_ c8
     clear c8
     obtain ⟨y311, hy311⟩ : ∃ y_ : List Int, y_ = (x5_1 ++ [0]) := ⟨_, rfl⟩
     replace H : (batonref04_Of.l1 k1 l1 y311 0) = some r := by first | (rw [hy311]; with_reducible exact H) | (have H2_ := (Option.bind_some _ _).symm.trans H; rw [hy311]; with_reducible exact H2_) | (have H2_ := (Option.bind_some _ _).symm.trans H; with_reducible exact H2_) | with_reducible exact H | (rw [hy311]; exact H) | exact H
     have Ny311 := A8_ hy311
     clear hy311
     have H' := A8_ H
     clear H
     go_wp2_with (first | ((with_reducible refine gate_builtin (b := .append) (xs := #[.tmp 23, .tmp 24]) rfl ?_); at_builtin; refine Kd.R_append (Kd.int .u8) (w0 := w) w.heap.size rfl (.tmp 23) (.tmp 24) 22 5 (.int .u8 0) 1 rfl Try.underlying22 info5 rfl (by decide) (by omega) u5 x5_1 0 [.int .u8 0] (fun _ => True) (fun _ => False) rfl rfl ?aP (fun _ hk => hk.elim) ?aF ?aO ?aB ?aS ?aL ?_; (case aP => exact rfl); (case aB => exact q8_2); (case aF => exact (fun _ _ => trivial)); (case aO => exact q8_4); (case aS => exact (below_size q8_2)); (case aL => have := LMc8.out; omega); intro v312 w9 ho hb hg hat; rw [← Ny311.out] at ho; have n0_ := A8_ (hb); have n1_ := A8_ (ho); clear HB HO_5; have HB := n0_; have HO313 := n1_; clear n0_ n1_; clear ho hb hg hat))
     go_loopg [5, 7] k1 (fun kq v5 v7 w' => ∃ (x5_2 : List Int) (x7_2 : Int), v7 = .int .i64 x7_2 ∧ Aside0 (batonref04_Of.l1 kq l1 x5_2 x7_2 = some r) ∧ Aside0 (kq ≤ k1) ∧ Aside0 (Kd.R (Kd.int .u8) 5 w' w.heap.size (fun _ => True) v5 x5_2) ∧ Aside0 (Below w.heap.size w w'))
     case atStart => exact ⟨(y311), (0), q8_8, H', ⟨Nat.le_refl _⟩, ⟨by (with_reducible repeat (first | apply Kd.R_alloc | apply Kd.R_drewN | apply Kd.R_drew)); exact HO313.out⟩, ⟨by repeat (first | (with_reducible first | exact HB.out | apply below_alloc | apply pw_below_drewN | apply below_drew1) | exact HB.out)⟩⟩
     case round =>
      clear H'
      try clear c1
      try clear p2
      try clear c3
      try clear c3b0
      try clear c4
      try clear c4b0
      try clear p5
      try clear q5
      try clear hx5
      try clear c6
      try clear p6
      try clear c8
      try clear c9
      try clear p2
      try clear p5
      try clear q5
      obtain ⟨x5_2, x7_2, rfl, HA, HK2, HO_5, HB⟩ := hrel
      cases gk with
      | zero => exact absurd HA.out (by simp [batonref04_Of.l1])
      | succ k2 =>
       have H := HA.out
       clear HA
       simp only [batonref04_Of.l1] at H
       by_cases c10 : x7_2 < (l1.length : Int)
       ·rw [if_pos c10] at H
        have c10b0 : decide (x7_2 < (l1.length : Int)) = true := decide_eq_true c10
        clear c10
        by_cases c11 : 0 ≤ x7_2
        ·rw [if_pos c11] at H
         have c11b0 : decide (0 ≤ x7_2) = true := decide_eq_true c11
         clear c11
         have H' := A8_ H
         clear H
         have p314 : 0 ≤ (x7_2 : Int) := of_decide_eq_true q8_10
         have q314 : x7_2 < (l1.length : Int) := of_decide_eq_true q8_10
         obtain ⟨ad314, e314, hx314_0⟩ := Kd.at_int HR1.out x7_2 p314 q314
         cases e314
         replace hx314_0 := (HB.out.cell (World.block_lt_of_cell? w _ hx314_0)).trans hx314_0
         replace p314 := eq_true p314
         replace q314 := eq_true q314
         go_wp2
         go_loopg [8, 9, 10] k2 (fun kq v8 v9 v10 w' => ∃ (x8_3 : Int) (x9_3 : List Int) (x10_3 : Int), v8 = .int .u64 x8_3 ∧ v10 = .int .i64 x10_3 ∧ Aside0 (batonref04_Of.l2 kq l1 x5_2 x7_2 x8_3 x9_3 x10_3 = some r) ∧ Aside0 (kq ≤ k2) ∧ Aside0 (Kd.R (Kd.int .u8) 5 w' w.heap.size (fun k_ => some k_ ≠ (v9 : Value).ownBlock) u5 x5_2) ∧ Aside0 (Kd.R (Kd.int .u8) 5 w' w.heap.size (fun k_ => some k_ ≠ (u5 : Value).ownBlock) v9 x9_3) ∧ Aside0 (Below w.heap.size w w'))
         case atStart => exact ⟨(IntKind.u64.wrap ((IntKind.u64.wrap (rd l1 x7_2)) + 9223372036854775808)), (([] : List Int)), (0), q8_8, q8_8, H', ⟨Nat.le_refl _⟩, ⟨by (with_reducible repeat (first | apply Kd.R_alloc | apply Kd.R_drewN | apply Kd.R_drew)); exact Kd.R_mono HO_5.out (fun _ hk => (by simp [Value.ownBlock]))⟩, ⟨by first | exact Kd.R_nil _ _ _ _ _ | exact Kd.N_nil _ _ _ _ _ | exact Kd.V_nil _ _ _ _ _ | exact Kd.Q_nil _ _ _ _ _ | exact Kd.S_nil _ _ _ _ _⟩, ⟨by repeat (first | (with_reducible first | exact HB.out | apply below_alloc | apply pw_below_drewN | apply below_drew1) | exact HB.out)⟩⟩
         case round =>
          clear H'
          try clear c1
          try clear p2
          try clear c3
          try clear c3b0
          try clear p3
          try clear q3
          try clear hx3
          try clear c4
          try clear c4b0
          try clear p5
          try clear q5
          try clear hx5
          try clear c6
          try clear p6
          try clear c8
          try clear c9
          try clear c10
          try clear c10b0
          try clear c11
          try clear c11b0
          try clear hx314_0
          try clear p2
          try clear p314
          try clear p5
          try clear p6
          try clear q314
          try clear q5
          obtain ⟨x8_3, x9_3, x10_3, rfl, rfl, HA, HK3, HO_5, HO_9, HB⟩ := hrel
          cases gk with
          | zero => exact absurd HA.out (by simp [batonref04_Of.l2])
          | succ k3 =>
           have H := HA.out
           clear HA
           simp only [batonref04_Of.l2] at H
           by_cases c12 : x10_3 < 8
           ·rw [if_pos c12] at H
            have c12b0 : decide (x10_3 < 8) = true := decide_eq_true c12
            clear c12
            obtain ⟨y315, hy315⟩ : ∃ y_ : List Int, y_ = (([(Int.tmod x8_3 256) % 256] : List Int)) := ⟨_, rfl⟩
            replace H : (if y315.length + x9_3.length < 140737488355328 then (batonref04_Of.l2 k3 l1 x5_2 x7_2 (IntKind.u64.wrap (Int.tdiv x8_3 256)) (y315 ++ x9_3) (wrap64 (x10_3 + 1))) else (none)) = some r := by first | (rw [hy315]; with_reducible exact H) | (have H2_ := (Option.bind_some _ _).symm.trans H; rw [hy315]; with_reducible exact H2_) | (have H2_ := (Option.bind_some _ _).symm.trans H; with_reducible exact H2_) | with_reducible exact H | (rw [hy315]; exact H) | exact H
            have Ny315 := A8_ hy315
            clear hy315
            by_cases c13 : y315.length + x9_3.length < 140737488355328
            ·rw [if_pos c13] at H
             have LMc13 := A8_ c13
             clear c13
             obtain ⟨y318, hy318⟩ : ∃ y_ : List Int, y_ = (y315 ++ x9_3) := ⟨_, rfl⟩
             replace H : (batonref04_Of.l2 k3 l1 x5_2 x7_2 (IntKind.u64.wrap (Int.tdiv x8_3 256)) y318 (wrap64 (x10_3 + 1))) = some r := by first | (rw [hy318]; with_reducible exact H) | (have H2_ := (Option.bind_some _ _).symm.trans H; rw [hy318]; with_reducible exact H2_) | (have H2_ := (Option.bind_some _ _).symm.trans H; with_reducible exact H2_) | with_reducible exact H | (rw [hy318]; exact H) | exact H
             have Ny318 := A8_ hy318
             clear hy318
             have H' := A8_ H
             clear H
             go_wp2_with (first | ((with_reducible refine gate_dst (N := 45) rfl ?_); refine Kd.R_lit (Kd.int .u8) _ 5 ?hg (N := 45) ?hd (xs := ([(Int.tmod x8_3 256) % 256] : List Int)) (inner := [.int .u8 ((Int.tmod x8_3 256) % 256)]) (ok := fun _ => True) (okp := fun _ => True) ?hr ?hp (fun _ hk => hk) trivial (Below.refl _ _) (Nat.le_refl _) (by simp) ?_; (case hd => rfl); (case hg => rfl); (case hr => first | (go_simp; done) | (go_simp; rfl)); (case hp => exact (Reps.one (show Kd.M (Kd.int .u8) _ _ _ ((Int.tmod x8_3 256) % 256) [.int .u8 ((Int.tmod x8_3 256) % 256)] from rfl) (Reps.none _ _))); intro v316 w14 ho15 hb hg_ hnew_; clear hg_ hnew_; (first | rw [← Ny315.out] at ho15 | (simp only [Int.reduceToNat] at ho15; rw [← Ny315.out] at ho15)); have n0_ := A8_ (Kd.R_elder' q8_4 (Kd.R_base ho15) hb); have n1_ := A8_ (Kd.R_elder' q8_12 (Kd.R_base ho15) hb); have n2_ := A8_ (Kd.R_lower (Kd.R_new' (Kd.R_new' ho15 (Kd.R_lt q8_4)) (Kd.R_lt q8_12)) (below_size q8_2)); have n3_ := A8_ (below_step q8_2 hb); clear HO_5 HO_9 HB; have HO_5 := n0_; have HO_9 := n1_; have HO317 := n2_; have HB := n3_; clear n0_ n1_ n2_ n3_; clear hb ho15; obtain ⟨Ao17, co17, eo17⟩ := Kd.R_slice HO_9.out; subst eo17) | ((with_reducible refine gate_builtin (b := .append) (xs := #[.tmp 45, .tmp 46]) rfl ?_); at_builtin; refine Kd.R_append_rows (Kd.int .u8) (w0 := w) w.heap.size rfl (.tmp 45) (.tmp 46) 22 5 (.int .u8 0) 1 rfl Try.underlying22 info5 rfl (by decide) (by omega) v316 y315 x9_3 _ _ _ (fun k_ => some k_ ≠ (u5 : Value).ownBlock ∧ some k_ ≠ (.slice Ao17 x9_3.length co17 : Value).ownBlock) (fun _ => False) rfl rfl ?aO ?aR (fun _ _ h => h) (fun _ h => h.elim) ?aF ?aB ?aS ?aL ?_; (case aR => repeat (first | exact (Kd.R_reads' HO_9.out).2.2 | (with_reducible refine Kd.C_alloc ?_ _) | (with_reducible refine Kd.C_drewN ?_ _) | (with_reducible refine Kd.C_drew ?_))); (case aB => exact q8_2); (case aF => exact (fun k_ hk => ⟨Kd.fresh' (Kd.R_lt q8_4) k_ hk, Kd.fresh' (Kd.R_lt q8_12) k_ hk⟩)); (case aO => exact (by (with_reducible repeat (first | apply Kd.R_alloc | apply Kd.R_drewN | apply Kd.R_drew)); exact Kd.R_mono HO317.out (fun _ hk => ⟨hk.1.2, hk.2⟩))); (case aS => exact (below_size q8_2)); (case aL => have := LMc13.out; omega); intro v319 w16 ho hb hg hat; rw [← Ny318.out] at ho; have n0_ := A8_ (Kd.R_after (ok := (fun k_ => some k_ ≠ (.slice Ao17 x9_3.length co17 : Value).ownBlock)) q8_4 hg hat); have n1_ := A8_ (Kd.R_after (ok := (fun k_ => some k_ ≠ (u5 : Value).ownBlock)) q8_12 hg hat); have n2_ := A8_ (hb); have n3_ := A8_ (ho); clear HO_5 HO_9 HB HO317; have HO_5 := n0_; have HO_9 := n1_; have HB := n2_; have HO320 := n3_; clear n0_ n1_ n2_ n3_; clear ho hb hg hat))
             go_roundg k3
             case measure => have := HK1.out; have := HK2.out; have := HK3.out; omega
             case rel => exact ⟨(IntKind.u64.wrap (Int.tdiv x8_3 256)), (y318), (wrap64 (x10_3 + 1)), q8_8, q8_8, H', ⟨by have := HK1.out; have := HK2.out; have := HK3.out; omega⟩, ⟨by (with_reducible repeat (first | apply Kd.R_alloc | apply Kd.R_drewN | apply Kd.R_drew)); exact Kd.R_mono HO_5.out (fun _ hk => hk.2)⟩, ⟨by (with_reducible repeat (first | apply Kd.R_alloc | apply Kd.R_drewN | apply Kd.R_drew)); exact Kd.R_mono HO320.out (fun _ hk => hk.1)⟩, ⟨by repeat (first | (with_reducible first | exact HB.out | apply below_alloc | apply pw_below_drewN | apply below_drew1) | exact HB.out)⟩⟩
            ·rw [if_neg c13] at H
             exact absurd H (by simp)
           ·rw [if_neg c12] at H
            have c12b0 : decide (x10_3 < 8) = false := decide_eq_false c12
            clear c12
            by_cases c18 : x5_2.length + x9_3.length < 140737488355328
            ·rw [if_pos c18] at H
             have LMc18 := A8_ c18
             clear c18
             obtain ⟨y321, hy321⟩ : ∃ y_ : List Int, y_ = (x5_2 ++ x9_3) := ⟨_, rfl⟩
             replace H : (batonref04_Of.l1 k3 l1 y321 (wrap64 (x7_2 + 1))) = some r := by first | (rw [hy321]; with_reducible exact H) | (have H2_ := (Option.bind_some _ _).symm.trans H; rw [hy321]; with_reducible exact H2_) | (have H2_ := (Option.bind_some _ _).symm.trans H; with_reducible exact H2_) | with_reducible exact H | (rw [hy321]; exact H) | exact H
             have Ny321 := A8_ hy321
             clear hy321
             have H' := A8_ H
             clear H
             obtain ⟨Ao20, co20, eo20⟩ := Kd.R_slice HO_9.out
             subst eo20
             go_wp2_with (first | ((with_reducible refine gate_builtin (b := .append) (xs := #[.tmp 50, .tmp 51]) rfl ?_); at_builtin; refine Kd.R_append_rows (Kd.int .u8) (w0 := w) w.heap.size rfl (.tmp 50) (.tmp 51) 22 5 (.int .u8 0) 1 rfl Try.underlying22 info5 rfl (by decide) (by omega) u5 x5_2 x9_3 _ _ _ (fun k_ => some k_ ≠ (.slice Ao20 x9_3.length co20 : Value).ownBlock) (fun _ => False) rfl rfl ?aO ?aR (fun _ _ h => h) (fun _ h => h.elim) ?aF ?aB ?aS ?aL ?_; (case aR => repeat (first | exact (Kd.R_reads' HO_9.out).2.2 | (with_reducible refine Kd.C_alloc ?_ _) | (with_reducible refine Kd.C_drewN ?_ _) | (with_reducible refine Kd.C_drew ?_))); (case aB => exact q8_2); (case aF => exact (fun k_ hk => Kd.fresh' (Kd.R_lt q8_12) k_ hk)); (case aO => exact q8_4); (case aS => exact (below_size q8_2)); (case aL => have := LMc18.out; omega); intro v322 w19 ho hb hg hat; rw [← Ny321.out] at ho; have n0_ := A8_ (Kd.R_after (ok := (fun _ => True)) (by (with_reducible repeat (first | apply Kd.R_alloc | apply Kd.R_drewN | apply Kd.R_drew)); exact Kd.R_mono HO_9.out (fun _ hk => ⟨trivial, hk⟩)) hg hat); have n1_ := A8_ (hb); have n2_ := A8_ (ho); clear HO_9 HB HO_5; have HO_9 := n0_; have HB := n1_; have HO323 := n2_; clear n0_ n1_ n2_; clear ho hb hg hat))
             go_roundg k3
             case measure => have := HK1.out; have := HK2.out; have := HK3.out; omega
             case rel => exact ⟨(y321), (wrap64 (x7_2 + 1)), q8_8, H', ⟨by have := HK1.out; have := HK2.out; have := HK3.out; omega⟩, ⟨by (with_reducible repeat (first | apply Kd.R_alloc | apply Kd.R_drewN | apply Kd.R_drew)); exact Kd.R_mono HO323.out (fun _ hk => trivial)⟩, ⟨by repeat (first | (with_reducible first | exact HB.out | apply below_alloc | apply pw_below_drewN | apply below_drew1) | exact HB.out)⟩⟩
            ·rw [if_neg c18] at H
             exact absurd H (by simp)
        ·rw [if_neg c11] at H
         exact absurd H (by simp)
       ·rw [if_neg c10] at H
        have c10b0 : decide (x7_2 < (l1.length : Int)) = false := decide_eq_false c10
        clear c10
        obtain rfl := Option.some.inj H
        go_wp2
        go_ret
        exact ⟨_, by first | rfl | (simp [errW_none, errW_some] <;> rfl) | (simp [*, errW_none, errW_some] <;> rfl), by (with_reducible repeat (first | apply Kd.R_alloc | apply Kd.R_drewN | apply Kd.R_drew)); exact HO_5.out, by repeat (first | (with_reducible first | exact HB.out | apply below_alloc | apply pw_below_drewN | apply below_drew1) | exact HB.out)⟩
    ·rw [if_neg c8] at H
     exact absurd H (by simp)

-- NOT PRINTED: function 70 (batonref05_Of)

-- NOT PRINTED: function 14 (batonlaw25_RosterFinds)

end Go.Proofs.Ytdbfclfglpbpmaa.PF25F
