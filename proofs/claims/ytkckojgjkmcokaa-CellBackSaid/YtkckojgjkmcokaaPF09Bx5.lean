/- By a program of this session (wip/tool/pp.py): plain Lean functions of the Go functions that this family of laws uses, the walks that the Go code comes to their answers, and the row of the law. No condition beside those that the row itself gives. -/
import Derived.Test.YtkckojgjkmcokaaPF09Bx0
import Derived.Test.YtkckojgjkmcokaaPF09Bx3
import Derived.Test.YtkckojgjkmcokaaPF09Bx4
namespace Go.Proofs.Ytkckojgjkmcokaa.PF09B
open Go.RowKit Go.Proofs.YtkckojgjkmcokaaW.Hand Go.Proofs.YtkckojgjkmcokaaW.PrintWords Go.Proofs.YtkckojgjkmcokaaW.PrintLast Go.Proofs.YtkckojgjkmcokaaW.PrintMore
attribute [local go_sem] max2_int min2_int max_two min_two max_three min_three max_four min_four   -- for this text's walks alone
set_option linter.unusedVariables false
set_option linter.unusedSimpArgs false

/-! ### codec_Writer_Number: function 67 -/
mutual
def codec_Writer_Number.j0 : Nat → Int → Bool → List Int → Int → Option (List Int × Int)
 | 0, _, _, _, _ => none
 | k + 1, x1, x9, x1000, x1001 => if x9 = true then ((codec_Writer_Fail.f x1000 x1001 1).bind fun bt145 => (some (bt145.1, bt145.2))) else (codec_Writer_Number.l0 k x1 x1000 x1001)
def codec_Writer_Number.l0 : Nat → Int → List Int → Int → Option (List Int × Int)
 | 0, _, _, _ => none
 | k + 1, x1, x1000, x1001 => if x1 ≥ 128 then ((codec_Writer_add.f x1000 x1001 (([(((Int.tmod x1 128) % 256) + 128) % 256] : List Int))).bind fun bt152 => (codec_Writer_Number.l0 k (wrap64 (Int.tdiv x1 128)) bt152.1 bt152.2)) else ((codec_Writer_add.f x1000 x1001 (([(x1) % 256] : List Int))).bind fun bt159 => (some (bt159.1, bt159.2)))
end
def codec_Writer_Number.f (k : Nat) (l0_0 : List Int) (a0_1 : Int) (a1 : Int) : Option (List Int × Int) := if a1 < 0 then (codec_Writer_Number.j0 k a1 true l0_0 a0_1) else (codec_Writer_Number.j0 k a1 (decide (a1 > 72057594037927935)) l0_0 a0_1)
theorem codec_Writer_Number.mono_l : ∀ k, (∀ y0 y1 y2 y3, LeO (codec_Writer_Number.j0 k y0 y1 y2 y3) (codec_Writer_Number.j0 (k + 1) y0 y1 y2 y3)) ∧ (∀ y0 y1 y2, LeO (codec_Writer_Number.l0 k y0 y1 y2) (codec_Writer_Number.l0 (k + 1) y0 y1 y2))
 | 0 => ⟨fun _ _ _ _ r h => by simp [codec_Writer_Number.j0] at h, fun _ _ _ r h => by simp [codec_Writer_Number.l0] at h⟩
 | k + 1 => by
  obtain ⟨ih0, ih1⟩ := codec_Writer_Number.mono_l k
  refine ⟨?_, ?_⟩
  ·intro y0 y1 y2 y3
   unfold codec_Writer_Number.j0
   repeat' first
   | (with_reducible exact ih0 _ _ _ _)
   | (with_reducible exact ih1 _ _ _)
   | (with_reducible exact LeO.refl _)
   | (with_reducible exact LeO.none _)
   | (with_reducible refine LeO.ite ?_ ?_)
   | (with_reducible refine LeO.bind ?_ (fun _ => ?_))
   | exact ih0 _ _ _ _
   | exact ih1 _ _ _
   | exact LeO.none _
   | refine LeO.ite ?_ ?_
   | refine LeO.bind ?_ (fun _ => ?_)
  ·intro y0 y1 y2
   unfold codec_Writer_Number.l0
   repeat' first
   | (with_reducible exact ih0 _ _ _ _)
   | (with_reducible exact ih1 _ _ _)
   | (with_reducible exact LeO.refl _)
   | (with_reducible exact LeO.none _)
   | (with_reducible refine LeO.ite ?_ ?_)
   | (with_reducible refine LeO.bind ?_ (fun _ => ?_))
   | exact ih0 _ _ _ _
   | exact ih1 _ _ _
   | exact LeO.none _
   | refine LeO.ite ?_ ?_
   | refine LeO.bind ?_ (fun _ => ?_)
theorem codec_Writer_Number.mono : ∀ a0 a1 a2 k, LeO (codec_Writer_Number.f k a0 a1 a2) (codec_Writer_Number.f (k + 1) a0 a1 a2) := by
 intro a0 a1 a2 k
 obtain ⟨ih0, ih1⟩ := codec_Writer_Number.mono_l k
 unfold codec_Writer_Number.f
 repeat' first
   | (with_reducible exact ih0 _ _ _ _)
   | (with_reducible exact ih1 _ _ _)
   | (with_reducible exact LeO.refl _)
   | (with_reducible exact LeO.none _)
   | (with_reducible refine LeO.ite ?_ ?_)
   | (with_reducible refine LeO.bind ?_ (fun _ => ?_))
   | exact ih0 _ _ _ _
   | exact ih1 _ _ _
   | exact LeO.none _
   | refine LeO.ite ?_ ?_
   | refine LeO.bind ?_ (fun _ => ?_)
theorem bc5_ {W : World} {g : Nat} {cs : Array Value} {t : TypeId} (h : Aside0 (W.heap[g]? = some (.cells cs t (0, 0)))) (j : Nat) {v : Value} (hv : cs[j]? = some v := by rfl) : W.cell? ⟨g, j, none⟩ = some v := (blk_cell h.out j).trans hv
theorem A5_ {p : Prop} (h : p) : Aside0 p := ⟨h⟩
theorem q5_3 {p : Prop} (h : p := by first | exact HK.out.1 | exact (show Kept w _ (fun k_ => (P0_0_ k_) ∨ k_ = g) from by repeat (first | (with_reducible first | exact HK.out | apply Kept.alloc | apply Kept.drewN | apply Kept.drew | refine Kept.setCell ?_ (.inl (.inr rfl)) _) | exact HK.out)).1) : p := h
theorem q5_4 {p : Prop} (h : p := by (with_reducible repeat (first | refine blk_drewN ?_ _ | refine blk_drew ?_ | refine blk_alloc ?_ _)); exact BK0.out) : p := h
theorem q5_5 {p : Prop} (h : p := by repeat (first | (with_reducible first | exact HB.out | apply below_alloc | apply pw_below_drewN | apply below_drew1 | refine below_set ?_ GE0.out) | exact HB.out)) : p := h
theorem q5_6 {p : Prop} (h : p := by repeat (first | (with_reducible first | exact HK.out | apply Kept.alloc | apply Kept.drewN | apply Kept.drew | refine Kept.setCell ?_ (.inl (.inr rfl)) _) | exact HK.out)) : p := h
theorem q5_7 {p : Prop} (h : p := by (try simp only [List.map_toArray, List.map_cons, List.map_nil]); first | done | rfl | (simp only [List.length_drop, List.length_take]; rfl)) : p := h
theorem q5_8 {p : Prop} (h : p := by first | exact HK.out.1 | exact (show Kept w _ (fun k_ => (P0_0_ k_) ∨ k_ = g) from by repeat (first | (with_reducible first | exact HK.out | apply Kept.alloc | apply Kept.drewN | apply Kept.drew | refine Kept.setCell ?_ (.inl (.inr rfl)) _ | refine Kept.setCell ?_ (.inr GW174.out) _) | exact HK.out)).1) : p := h
theorem q5_9 {p : Prop} (h : p := by repeat (first | (with_reducible first | exact HK.out | apply Kept.alloc | apply Kept.drewN | apply Kept.drew | refine Kept.setCell ?_ (.inl (.inr rfl)) _ | refine Kept.setCell ?_ (.inr GW174.out) _) | exact HK.out)) : p := h
theorem q5_10 {p : Prop} (h : p := by (with_reducible repeat (first | refine blk_drewN ?_ _ | refine blk_drew ?_ | refine blk_alloc ?_ _)); refine blk_put (cs := #[.int .i32 ((rd_T53 l1 x10_1).f0), .int .i64 ((rd_T53 l1 x10_1).f1.f0), .int .i64 ((rd_T53 l1 x10_1).f1.f1), .int .i64 0]) ?_ 3 _ rfl; (with_reducible repeat (first | refine blk_drewN ?_ _ | refine blk_drew ?_ | refine blk_alloc ?_ _)); refine blk_put (cs := #[.int .i32 ((rd_T53 l1 x10_1).f0), .int .i64 ((rd_T53 l1 x10_1).f1.f0), .int .i64 0, .int .i64 0]) ?_ 2 _ rfl; (with_reducible repeat (first | refine blk_drewN ?_ _ | refine blk_drew ?_ | refine blk_alloc ?_ _)); refine blk_put (cs := #[.int .i32 ((rd_T53 l1 x10_1).f0), .int .i64 0, .int .i64 0, .int .i64 0]) ?_ 1 _ rfl; (with_reducible repeat (first | refine blk_drewN ?_ _ | refine blk_drew ?_ | refine blk_alloc ?_ _)); refine blk_put (cs := #[.int .i32 0, .int .i64 0, .int .i64 0, .int .i64 0]) ?_ 0 _ rfl; (with_reducible repeat (first | refine blk_drewN ?_ _ | refine blk_drew ?_ | refine blk_alloc ?_ _)); exact BK164.out) : p := h
theorem q5_11 {p : Prop} (h : p := by repeat (first | (with_reducible first | exact HB.out | apply below_alloc | apply pw_below_drewN | apply below_drew1) | exact HB.out)) : p := h
theorem q5_12 {p : Prop} (h : p := by (with_reducible repeat (first | apply Kd.R_alloc | apply Kd.R_drewN | apply Kd.R_drew)); exact HO_1000.out) : p := h
theorem q5_13 {p : Prop} (h : p := by (with_reducible repeat (first | apply Kd.R_alloc | apply Kd.R_drewN | apply Kd.R_drew)); exact HO0_0.out) : p := h
theorem q5_14 {p : Prop} (h : p := by (with_reducible repeat (first | refine blk_drewN ?_ _ | refine blk_drew ?_ | refine blk_alloc ?_ _)); refine blk_far ?_ NB0_164.out _; (with_reducible repeat (first | refine blk_drewN ?_ _ | refine blk_drew ?_ | refine blk_alloc ?_ _)); refine blk_far ?_ NB0_164.out _; (with_reducible repeat (first | refine blk_drewN ?_ _ | refine blk_drew ?_ | refine blk_alloc ?_ _)); refine blk_far ?_ NB0_164.out _; (with_reducible repeat (first | refine blk_drewN ?_ _ | refine blk_drew ?_ | refine blk_alloc ?_ _)); refine blk_far ?_ NB0_164.out _; (with_reducible repeat (first | refine blk_drewN ?_ _ | refine blk_drew ?_ | refine blk_alloc ?_ _)); exact BK0.out) : p := h
theorem q5_15 {p : Prop} (h : p := by (with_reducible repeat (first | apply Kd.R_alloc | apply Kd.R_drewN | apply Kd.R_drew)); exact (Kd.R_mono (Kd.R_far (p := ⟨gb164, 3, none⟩) (Kd.R_far (p := ⟨gb164, 2, none⟩) (Kd.R_far (p := ⟨gb164, 1, none⟩) (Kd.R_far (p := ⟨gb164, 0, none⟩) (Kd.R_types HO_1000.out BK164.out (by decide)) (fun _ hk => hk.2) (.int .i32 ((rd_T53 l1 x10_1).f0))) (fun _ hk => hk.2) (.int .i64 ((rd_T53 l1 x10_1).f1.f0))) (fun _ hk => hk.2) (.int .i64 ((rd_T53 l1 x10_1).f1.f1))) (fun _ hk => hk.2) (.int .i64 ((rd_T53 l1 x10_1).f1.f2))) (fun _ h_ => h_.1))) : p := h
theorem q5_16 {p : Prop} (h : p := by first | (with_reducible assumption) | assumption) : p := h
theorem q5_17 {p : Prop} (h : p := by (with_reducible repeat (first | refine blk_drewN ?_ _ | refine blk_drew ?_ | refine blk_alloc ?_ _)); exact BK174.out) : p := h
theorem q5_18 {p : Prop} (h : p := by repeat (first | (with_reducible first | exact HK.out | apply Kept.alloc | apply Kept.drewN | apply Kept.drew | refine Kept.setCell ?_ (.inl (.inr rfl)) _ | refine Kept.setCell ?_ (.inr GW164.out) _) | exact HK.out)) : p := h
theorem q5_19 {p : Prop} (h : p := by first | rfl | (simp; done) | (simp [*]; done)) : p := h
theorem q5_20 {p : Prop} (h : p := by first | exact HK.out.1 | exact (show Kept w _ (fun k_ => k_ = g) from by repeat (first | (with_reducible first | exact HK.out | apply Kept.alloc | apply Kept.drewN | apply Kept.drew | refine Kept.setCell ?_ (.inl (show g = g from rfl)) _) | exact HK.out)).1) : p := h
theorem q5_21 {p : Prop} (h : p := by repeat (first | (with_reducible first | exact HB.out | apply below_alloc | apply pw_below_drewN | apply below_drew1 | refine below_set ?_ GE0.out | refine below_set ?_ GE164.out) | exact HB.out)) : p := h
theorem q5_22 {p : Prop} (h : p := by decide) : p := h
theorem q5_23 {p : Prop} (h : p := by repeat (first | (with_reducible first | exact HK.out | apply Kept.alloc | apply Kept.drewN | apply Kept.drew | refine Kept.setCell ?_ (.inl (show g = g from rfl)) _) | exact HK.out)) : p := h
set_option maxHeartbeats 8000000 in
set_option maxRecDepth 100000 in
theorem codec_Writer_Number.calls (k : Nat) (g : Nat) (P0_0_ : Nat → Prop) (u9000_ : Value) (l0_0 : List Int) (a0_1 : Int) (a1 : Int) (r1 : List Int) (r2 : Int) (w0 w : World) (hb : w.heap[g]? = some (.cells #[u9000_, .int .i64 a0_1] 101 (0, 0))) (hg : w0.heap.size ≤ g) (hB : Below w0.heap.size w0 w) (ho0_0 : Kd.R (Kd.int .u8) 5 w w0.heap.size P0_0_ u9000_ l0_0) (h : codec_Writer_Number.f k l0_0 a0_1 a1 = some (r1, r2)) :
  Calls Try.prog 67 #[.pointer (some ⟨g, 0, none⟩), .int .i64 a1] w fun e w' => ∃ v0_ : Value, Aside0 (e = .returned (.tuple #[]) ∧ Kd.R (Kd.int .u8) 5 w' w0.heap.size (fun k_ => (P0_0_ k_ ∨ w.heap.size ≤ k_)) v0_ r1 ∧ w'.heap[g]? = some (.cells #[v0_, .int .i64 r2] 101 (0, 0)) ∧ Below w0.heap.size w0 w' ∧ Kept w w' (fun k_ => (P0_0_ k_) ∨ k_ = g)) := by
 have HO0_0 := A5_ (show Kd.R (Kd.int .u8) 5 w w0.heap.size (fun k_ => (P0_0_ k_ ∨ w.heap.size ≤ k_)) u9000_ l0_0 from Kd.R_mono ho0_0 (fun k_ hk => (.inl hk)))
 have HK := A5_ (Kept.refl w (fun k_ => (P0_0_ k_) ∨ k_ = g))
 have BK0 := A5_ hb
 have GE0 := A5_ hg
 clear hb hg
 have HW0 := A5_ hB.size
 have HB := A5_ hB
 clear hB
 have H : (if a1 < 0 then (codec_Writer_Number.j0 k a1 true l0_0 a0_1) else (codec_Writer_Number.j0 k a1 (decide (a1 > 72057594037927935)) l0_0 a0_1)) = some (r1, r2) := h
 clear h
 have HC3 := A5_ H
 clear H
 go_enter Try.func67, Try.ntmps67
 go_upto_region 0 with (fail)
 go_cut [9] (fun v9 wc => ∃ (kq : Nat) (x9_2 : Bool), v9 = .bool x9_2 ∧ Aside0 (codec_Writer_Number.j0 kq a1 x9_2 l0_0 a0_1 = some (r1, r2)) ∧ Aside0 (kq ≤ k) ∧ Aside0 (Kd.R (Kd.int .u8) 5 wc w0.heap.size (fun k_ => (P0_0_ k_ ∨ w.heap.size ≤ k_)) u9000_ l0_0) ∧ Aside0 (wc.heap[g]? = some (.cells #[u9000_, .int .i64 a0_1] 101 (0, 0))) ∧ Aside0 (Kept w wc (fun k_ => (P0_0_ k_) ∨ k_ = g)) ∧ Aside0 (Below w0.heap.size w0 wc))
 case first =>
  have H := HC3.out
  clear HC3
  by_cases c4 : a1 < 0
  ·rw [if_pos c4] at H
   have c4b0 : decide (a1 < 0) = true := decide_eq_true c4
   clear c4
   (first | rw [c4b0] | (simp only [i64_w, i32_w]; rw [c4b0]) | rw [c4b1] | rw [c4b2] | skip)
   have H' := A5_ H
   clear H
   go_wp2
   go_meet
   case rel => exact ⟨_, (true), q5_19, H', ⟨by first | omega | exact Nat.le_refl _⟩, ⟨by (with_reducible repeat (first | apply Kd.R_alloc | apply Kd.R_drewN | apply Kd.R_drew)); exact HO0_0.out⟩, ⟨by (with_reducible repeat (first | refine blk_drewN ?_ _ | refine blk_drew ?_ | refine blk_alloc ?_ _)); exact BK0.out⟩, ⟨by repeat (first | (with_reducible first | exact HK.out | apply Kept.alloc | apply Kept.drewN | apply Kept.drew | refine Kept.setCell ?_ (.inl (.inr rfl)) _) | exact HK.out)⟩, ⟨by repeat (first | (with_reducible first | exact HB.out | apply below_alloc | apply pw_below_drewN | apply below_drew1 | refine below_set ?_ GE0.out) | exact HB.out)⟩⟩
  ·rw [if_neg c4] at H
   have c4b0 : decide (a1 < 0) = false := decide_eq_false c4
   clear c4
   (first | rw [c4b0] | (simp only [i64_w, i32_w]; rw [c4b0]) | rw [c4b1] | rw [c4b2] | skip)
   have H' := A5_ H
   clear H
   go_wp2
   go_meet
   case rel => exact ⟨_, (decide (a1 > 72057594037927935)), q5_19, H', ⟨by first | omega | exact Nat.le_refl _⟩, ⟨by (with_reducible repeat (first | apply Kd.R_alloc | apply Kd.R_drewN | apply Kd.R_drew)); exact HO0_0.out⟩, ⟨by (with_reducible repeat (first | refine blk_drewN ?_ _ | refine blk_drew ?_ | refine blk_alloc ?_ _)); exact BK0.out⟩, ⟨by repeat (first | (with_reducible first | exact HK.out | apply Kept.alloc | apply Kept.drewN | apply Kept.drew | refine Kept.setCell ?_ (.inl (.inr rfl)) _) | exact HK.out)⟩, ⟨by repeat (first | (with_reducible first | exact HB.out | apply below_alloc | apply pw_below_drewN | apply below_drew1 | refine below_set ?_ GE0.out) | exact HB.out)⟩⟩
 case rest =>
  clear HC3
  try clear p2
  try clear c4
  try clear c4b0
  try clear c4b1
  try clear c4b2
  obtain ⟨kq, x9_2, rfl, HA, HJ2, HO_1000, BK0, HK, HB⟩ := hcut
  cases kq with
  | zero => exact absurd HA.out (by simp [codec_Writer_Number.j0])
  | succ kj2 =>
   have H := HA.out
   clear HA
   simp only [codec_Writer_Number.j0] at H
   by_cases c5 : x9_2 = true
   ·subst c5
    have H1 : ((codec_Writer_Fail.f l0_0 a0_1 1).bind fun bt145 => (some (bt145.1, bt145.2))) = some (r1, r2) := by rw [if_pos rfl] at H; exact H
    clear H
    have H := H1
    clear H1
    replace H := Option.bind_eq_some_iff.mp H
    obtain ⟨⟨t145, t148⟩, A60, H⟩ := H
    replace H : (some (t145, t148)) = some (r1, r2) := H
    have A6 := A5_ A60
    clear A60
    simp only [Option.some.injEq, Prod.mk.injEq] at H
    obtain ⟨rfl, rfl⟩ := H
    obtain ⟨Ao7, co7, eo7⟩ := Kd.R_slice HO_1000.out
    subst eo7
    go_wp2_with (first | ((with_reducible refine gate_callee (f := 66) rfl ?_); refine goesL_ (some 11) rfl rfl Try.func66 (by kernel_rfl) rfl #[.pointer (some ⟨g, 0, none⟩), .int .i64 1] rfl q5_7 ?_; (with_reducible refine (codec_Writer_Fail.calls g (fun k_ => some k_ = (.slice Ao7 l0_0.length co7 : Value).ownBlock) (.slice Ao7 l0_0.length co7) l0_0 a0_1 1 t145 t148 w0 _ ?side2 ?side3 ?side1 ?side4 A6.out).mono ?_); (case side1 => repeat (first | (with_reducible first | exact HB.out | apply below_alloc | apply pw_below_drewN | apply below_drew1 | refine below_set ?_ GE0.out) | exact HB.out)); (case side2 => (with_reducible repeat (first | refine blk_drewN ?_ _ | refine blk_drew ?_ | refine blk_alloc ?_ _)); exact BK0.out); (case side3 => exact GE0.out); (case side4 => exact Kd.R_tight rfl HO_1000.out); rintro e w8 ⟨v146, rfl, ho0, hbx, hb, hkp⟩; refine ⟨_, rfl, ?_⟩; have n0_ := A5_ (hbx); have n1_ := A5_ (Kd.R_mono (ok' := fun k_ => (P0_0_ k_ ∨ w.heap.size ≤ k_)) ho0 (fun k_ hk_ => Or.elim hk_ (fun hs_ => (HO_1000.out.1 k_ (hs_).symm)) (fun hn_ => (.inr (Nat.le_trans q5_3 hn_))))); have n2_ := A5_ (Kept.then_ (S := (fun k_ => (P0_0_ k_) ∨ k_ = g)) q5_6 hkp (fun k_ hs_ => Or.elim hs_ (fun hs_ => (fun e_ => Or.imp_left Or.inl ((HO_1000.out.1 k_ e_.symm))) hs_) (fun e_ => .inl (.inr e_)))); have n3_ := A5_ (hb); clear BK0 HK HB HO_1000; have BK0 := n0_; have HO147 := n1_; have HK := n2_; have HB := n3_; clear n0_ n1_ n2_ n3_; (try clear hbx); (try clear hbn); (try clear hgn); (try clear hb); (try clear hkp); (try clear ho0)))
    first | ((try simp only [Exit.inBlock, Exit.then]); refine bodyPost_ret (results_none rfl _ _ _) rfl ?_) | go_end0
    exact ⟨(v146), by first | rfl | (simp [errW_none, errW_some, ptrW_true, ptrW_false] <;> rfl) | (simp [*, errW_none, errW_some, ptrW_true, ptrW_false] <;> rfl), by (with_reducible repeat (first | apply Kd.R_alloc | apply Kd.R_drewN | apply Kd.R_drew)); exact HO147.out, q5_4, by repeat (first | (with_reducible first | exact HB.out | apply below_alloc | apply pw_below_drewN | apply below_drew1 | refine below_set ?_ GE0.out) | exact HB.out), by repeat (first | (with_reducible first | exact HK.out | apply Kept.alloc | apply Kept.drewN | apply Kept.drew | refine Kept.setCell ?_ (.inl (.inr rfl)) _) | exact HK.out)⟩
   ·replace c5 := Bool.eq_false_iff.mpr c5
    subst c5
    have H1 : (codec_Writer_Number.l0 kj2 a1 l0_0 a0_1) = some (r1, r2) := by rw [if_neg (show ¬ (false = true) by decide)] at H; exact H
    clear H
    have H := H1
    clear H1
    have H' := A5_ H
    clear H
    go_wp2
    go_loopg [1] kj2 (fun kq v1 w' => ∃ (x1_2 : Int) (x1000_2 : List Int) (x1001_2 : Int) (u1000 : Value), v1 = .int .i64 x1_2 ∧ Aside0 (codec_Writer_Number.l0 kq x1_2 x1000_2 x1001_2 = some (r1, r2)) ∧ Aside0 (kq ≤ kj2) ∧ Aside0 (Kd.R (Kd.int .u8) 5 w' w0.heap.size (fun k_ => (P0_0_ k_ ∨ w.heap.size ≤ k_)) u1000 x1000_2) ∧ Aside0 (w'.heap[g]? = some (.cells #[u1000, .int .i64 x1001_2] 101 (0, 0))) ∧ Aside0 (Kept w w' (fun k_ => (P0_0_ k_) ∨ k_ = g)) ∧ Aside0 (Below w0.heap.size w0 w'))
    case atStart => exact ⟨(a1), (l0_0), (a0_1), (u9000_), q5_19, H', ⟨Nat.le_refl _⟩, ⟨by (with_reducible repeat (first | apply Kd.R_alloc | apply Kd.R_drewN | apply Kd.R_drew)); exact HO_1000.out⟩, ⟨by (with_reducible repeat (first | refine blk_drewN ?_ _ | refine blk_drew ?_ | refine blk_alloc ?_ _)); exact BK0.out⟩, ⟨by repeat (first | (with_reducible first | exact HK.out | apply Kept.alloc | apply Kept.drewN | apply Kept.drew | refine Kept.setCell ?_ (.inl (.inr rfl)) _) | exact HK.out)⟩, ⟨by repeat (first | (with_reducible first | exact HB.out | apply below_alloc | apply pw_below_drewN | apply below_drew1 | refine below_set ?_ GE0.out) | exact HB.out)⟩⟩
    case round =>
     clear H'
     try clear p2
     try clear c4
     try clear c4b0
     try clear c4b1
     try clear c4b2
     try clear c5
     try clear c6
     try clear p2
     obtain ⟨x1_2, x1000_2, x1001_2, u1000, rfl, HA, HK2, HO_1000, BK0, HK, HB⟩ := hrel
     cases gk with
     | zero => exact absurd HA.out (by simp [codec_Writer_Number.l0])
     | succ k2 =>
      have H := HA.out
      clear HA
      simp only [codec_Writer_Number.l0] at H
      by_cases c9 : x1_2 ≥ 128
      ·rw [if_pos c9] at H
       have c9b0 : decide (128 ≤ x1_2) = true := decide_eq_true c9
       clear c9
       obtain ⟨y149, hy149⟩ : ∃ y_ : List Int, y_ = (([(((Int.tmod x1_2 128) % 256) + 128) % 256] : List Int)) := ⟨_, rfl⟩
       replace H : ((codec_Writer_add.f x1000_2 x1001_2 y149).bind fun bt152 => (codec_Writer_Number.l0 k2 (wrap64 (Int.tdiv x1_2 128)) bt152.1 bt152.2)) = some (r1, r2) := by first | (rw [hy149]; with_reducible exact H) | (have H2_ := (Option.bind_some _ _).symm.trans H; rw [hy149]; with_reducible exact H2_) | (have H2_ := (Option.bind_some _ _).symm.trans H; with_reducible exact H2_) | with_reducible exact H | (rw [hy149]; exact H) | exact H
       have Ny149 := A5_ hy149
       clear hy149
       replace H := Option.bind_eq_some_iff.mp H
       obtain ⟨⟨t152, t155⟩, A100, H⟩ := H
       replace H : (codec_Writer_Number.l0 k2 (wrap64 (Int.tdiv x1_2 128)) t152 t155) = some (r1, r2) := H
       have A10 := A5_ A100
       clear A100
       have H' := A5_ H
       clear H
       go_wp2_with (first | ((with_reducible refine gate_dst (N := 19) rfl ?_); refine Kd.R_lit (Kd.int .u8) _ 5 ?hg (N := 19) ?hd (xs := ([(((Int.tmod x1_2 128) % 256) + 128) % 256] : List Int)) (inner := [.int .u8 ((((Int.tmod x1_2 128) % 256) + 128) % 256)]) (ok := fun _ => True) (okp := fun _ => True) ?hr ?hp (fun _ hk => hk) trivial (Below.refl _ _) (Nat.le_refl _) (by simp) ?_; (case hd => rfl); (case hg => rfl); (case hr => first | (go_simp; done) | (go_simp; rfl)); (case hp => exact (Reps.one (show Kd.M (Kd.int .u8) _ _ _ ((((Int.tmod x1_2 128) % 256) + 128) % 256) [.int .u8 ((((Int.tmod x1_2 128) % 256) + 128) % 256)] from rfl) (Reps.none _ _))); intro v150 w11 ho12 hb hg_ hnew_; clear hg_ hnew_; (first | rw [← Ny149.out] at ho12 | (simp only [Int.reduceToNat] at ho12; rw [← Ny149.out] at ho12)); have n0_ := A5_ (Kd.R_elder' q5_12 (Kd.R_base ho12) hb); have n1_ := A5_ (Kd.R_lower (Kd.R_new' (Kd.R_newM (M := fun k_ => (P0_0_ k_ ∨ w.heap.size ≤ k_)) ho12 q5_3 (fun k_ h_ => .inr h_)) (Kd.R_lt q5_12)) (below_size q5_5)); have n2_ := A5_ (blk_below (g := g) (o := .cells #[u1000, .int .i64 x1001_2] 101 (0, 0)) q5_4 hb); have n3_ := A5_ (Kept.below (S := (fun k_ => (P0_0_ k_) ∨ k_ = g)) q5_6 hb); have n4_ := A5_ (below_step q5_5 hb); clear HO_1000 BK0 HK HB; have HO_1000 := n0_; have HO151 := n1_; have BK0 := n2_; have HK := n3_; have HB := n4_; clear n0_ n1_ n2_ n3_ n4_; clear hb ho12; obtain ⟨Ao13, co13, eo13⟩ := Kd.R_slice HO_1000.out; subst eo13; obtain ⟨Ao14, co14, eo14⟩ := Kd.R_slice HO151.out; subst eo14) | ((with_reducible refine gate_callee (f := 91) rfl ?_); refine goesL_ (some 20) rfl rfl Try.func91 (by kernel_rfl) rfl #[.pointer (some ⟨g, 0, none⟩), .slice Ao14 y149.length co14] rfl q5_7 ?_; (with_reducible refine (codec_Writer_add.calls g (fun k_ => some k_ = (.slice Ao13 x1000_2.length co13 : Value).ownBlock) (.slice Ao13 x1000_2.length co13) x1000_2 x1001_2 _ _ y149 t152 t155 w0 _ ?side2 ?side3 ?side1 ?side4 ?side5 ?side6 A10.out).mono ?_); (case side1 => repeat (first | (with_reducible first | exact HB.out | apply below_alloc | apply pw_below_drewN | apply below_drew1 | refine below_set ?_ GE0.out) | exact HB.out)); (case side2 => (with_reducible repeat (first | refine blk_drewN ?_ _ | refine blk_drew ?_ | refine blk_alloc ?_ _)); exact BK0.out); (case side3 => exact GE0.out); (case side4 => exact Kd.R_tight rfl HO_1000.out); (case side5 => exact Kd.C_kept_own ((Kd.R_types HO151.out (show (World.heap _)[g]? = some (.cells #[.slice Ao13 x1000_2.length co13, .int .i64 x1001_2] 101 (0, 0)) from by (with_reducible repeat (first | refine blk_drewN ?_ _ | refine blk_drew ?_ | refine blk_alloc ?_ _)); exact BK0.out) q5_22)) (fun k_ hk_ hs_ => Or.elim hs_ (fun hs_ => (hk_.1.2) hs_) (fun e_ => (hk_.2) e_))); (case side6 => exact (Kd.R_reads' HO151.out).2.1); rintro e w15 ⟨v153, rfl, ho0, hbx, hb, hkp⟩; refine ⟨_, rfl, ?_⟩; have n0_ := A5_ (hbx); have n1_ := A5_ (Kd.R_mono (ok' := fun k_ => (P0_0_ k_ ∨ w.heap.size ≤ k_) ∧ some k_ ≠ (v153 : Value).ownBlock) (Kd.R_keptB ((Kd.R_types HO151.out (show (World.heap _)[g]? = some (.cells #[.slice Ao13 x1000_2.length co13, .int .i64 x1001_2] 101 (0, 0)) from by (with_reducible repeat (first | refine blk_drewN ?_ _ | refine blk_drew ?_ | refine blk_alloc ?_ _)); exact BK0.out) q5_22)) hkp (fun k_ hk_ hs_ => Or.elim hs_ (fun hs_ => (hk_.1.2) hs_) (fun e_ => (hk_.2) e_))) (fun k_ hk_ => ⟨hk_.1.1.1.1, fun e_ => Or.elim (ho0.1 k_ e_.symm) (fun hs_ => hk_.2.1 (.inl hs_)) (fun hn_ => Nat.not_le.2 hk_.2.2 hn_)⟩)); have n2_ := A5_ (Kd.R_mono (ok' := fun k_ => (P0_0_ k_ ∨ w.heap.size ≤ k_) ∧ some k_ ≠ (.slice Ao14 y149.length co14 : Value).ownBlock) ho0 (fun k_ hk_ => ⟨Or.elim hk_ (fun hs_ => (HO_1000.out.1 k_ (hs_).symm).1) (fun hn_ => (.inr (Nat.le_trans q5_3 hn_))), Or.elim hk_ (fun hs_ => fun e_ => ((((Kd.R_types HO151.out (show (World.heap _)[g]? = some (.cells #[.slice Ao13 x1000_2.length co13, .int .i64 x1001_2] 101 (0, 0)) from by (with_reducible repeat (first | refine blk_drewN ?_ _ | refine blk_drew ?_ | refine blk_alloc ?_ _)); exact BK0.out) q5_22)).1 k_ e_.symm).1.2) hs_) (fun hn_ => (Kd.fresh' (Kd.R_lt (by (with_reducible repeat (first | apply Kd.R_alloc | apply Kd.R_drewN | apply Kd.R_drew)); exact HO151.out)) k_ hn_))⟩)); have n3_ := A5_ (Kept.then_ (S := (fun k_ => (P0_0_ k_) ∨ k_ = g)) q5_6 hkp (fun k_ hs_ => Or.elim hs_ (fun hs_ => (fun e_ => Or.imp_left Or.inl ((HO_1000.out.1 k_ e_.symm).1)) hs_) (fun e_ => .inl (.inr e_)))); have n4_ := A5_ (hb); clear BK0 HO151 HK HB HO_1000; have BK0 := n0_; have HO151 := n1_; have HO154 := n2_; have HK := n3_; have HB := n4_; clear n0_ n1_ n2_ n3_ n4_; (try clear hbx); (try clear hbn); (try clear hgn); (try clear hb); (try clear hkp); (try clear ho0)))
       go_roundg k2
       case measure => have := HJ2.out; have := HK2.out; omega
       case rel => exact ⟨(wrap64 (Int.tdiv x1_2 128)), (t152), (t155), (v153), q5_19, H', ⟨by have := HJ2.out; have := HK2.out; omega⟩, ⟨by (with_reducible repeat (first | apply Kd.R_alloc | apply Kd.R_drewN | apply Kd.R_drew)); exact Kd.R_mono HO154.out (fun _ hk => hk.1)⟩, ⟨by (with_reducible repeat (first | refine blk_drewN ?_ _ | refine blk_drew ?_ | refine blk_alloc ?_ _)); exact BK0.out⟩, ⟨by repeat (first | (with_reducible first | exact HK.out | apply Kept.alloc | apply Kept.drewN | apply Kept.drew | refine Kept.setCell ?_ (.inl (.inr rfl)) _) | exact HK.out)⟩, ⟨by repeat (first | (with_reducible first | exact HB.out | apply below_alloc | apply pw_below_drewN | apply below_drew1 | refine below_set ?_ GE0.out) | exact HB.out)⟩⟩
      ·rw [if_neg c9] at H
       have c9b0 : decide (128 ≤ x1_2) = false := decide_eq_false c9
       clear c9
       obtain ⟨y156, hy156⟩ : ∃ y_ : List Int, y_ = (([(x1_2) % 256] : List Int)) := ⟨_, rfl⟩
       replace H : ((codec_Writer_add.f x1000_2 x1001_2 y156).bind fun bt159 => (some (bt159.1, bt159.2))) = some (r1, r2) := by first | (rw [hy156]; with_reducible exact H) | (have H2_ := (Option.bind_some _ _).symm.trans H; rw [hy156]; with_reducible exact H2_) | (have H2_ := (Option.bind_some _ _).symm.trans H; with_reducible exact H2_) | with_reducible exact H | (rw [hy156]; exact H) | exact H
       have Ny156 := A5_ hy156
       clear hy156
       replace H := Option.bind_eq_some_iff.mp H
       obtain ⟨⟨t159, t162⟩, A160, H⟩ := H
       replace H : (some (t159, t162)) = some (r1, r2) := H
       have A16 := A5_ A160
       clear A160
       simp only [Option.some.injEq, Prod.mk.injEq] at H
       obtain ⟨rfl, rfl⟩ := H
       go_wp2_with (first | ((with_reducible refine gate_dst (N := 26) rfl ?_); refine Kd.R_lit (Kd.int .u8) _ 5 ?hg (N := 26) ?hd (xs := ([(x1_2) % 256] : List Int)) (inner := [.int .u8 ((x1_2) % 256)]) (ok := fun _ => True) (okp := fun _ => True) ?hr ?hp (fun _ hk => hk) trivial (Below.refl _ _) (Nat.le_refl _) (by simp) ?_; (case hd => rfl); (case hg => rfl); (case hr => first | (go_simp; done) | (go_simp; rfl)); (case hp => exact (Reps.one (show Kd.M (Kd.int .u8) _ _ _ ((x1_2) % 256) [.int .u8 ((x1_2) % 256)] from rfl) (Reps.none _ _))); intro v157 w17 ho18 hb hg_ hnew_; clear hg_ hnew_; (first | rw [← Ny156.out] at ho18 | (simp only [Int.reduceToNat] at ho18; rw [← Ny156.out] at ho18)); have n0_ := A5_ (Kd.R_elder' q5_12 (Kd.R_base ho18) hb); have n1_ := A5_ (Kd.R_lower (Kd.R_new' (Kd.R_newM (M := fun k_ => (P0_0_ k_ ∨ w.heap.size ≤ k_)) ho18 q5_3 (fun k_ h_ => .inr h_)) (Kd.R_lt q5_12)) (below_size q5_5)); have n2_ := A5_ (blk_below (g := g) (o := .cells #[u1000, .int .i64 x1001_2] 101 (0, 0)) q5_4 hb); have n3_ := A5_ (Kept.below (S := (fun k_ => (P0_0_ k_) ∨ k_ = g)) q5_6 hb); have n4_ := A5_ (below_step q5_5 hb); clear HO_1000 BK0 HK HB; have HO_1000 := n0_; have HO158 := n1_; have BK0 := n2_; have HK := n3_; have HB := n4_; clear n0_ n1_ n2_ n3_ n4_; clear hb ho18; obtain ⟨Ao19, co19, eo19⟩ := Kd.R_slice HO_1000.out; subst eo19; obtain ⟨Ao20, co20, eo20⟩ := Kd.R_slice HO158.out; subst eo20) | ((with_reducible refine gate_callee (f := 91) rfl ?_); refine goesL_ (some 27) rfl rfl Try.func91 (by kernel_rfl) rfl #[.pointer (some ⟨g, 0, none⟩), .slice Ao20 y156.length co20] rfl q5_7 ?_; (with_reducible refine (codec_Writer_add.calls g (fun k_ => some k_ = (.slice Ao19 x1000_2.length co19 : Value).ownBlock) (.slice Ao19 x1000_2.length co19) x1000_2 x1001_2 _ _ y156 t159 t162 w0 _ ?side2 ?side3 ?side1 ?side4 ?side5 ?side6 A16.out).mono ?_); (case side1 => repeat (first | (with_reducible first | exact HB.out | apply below_alloc | apply pw_below_drewN | apply below_drew1 | refine below_set ?_ GE0.out) | exact HB.out)); (case side2 => (with_reducible repeat (first | refine blk_drewN ?_ _ | refine blk_drew ?_ | refine blk_alloc ?_ _)); exact BK0.out); (case side3 => exact GE0.out); (case side4 => exact Kd.R_tight rfl HO_1000.out); (case side5 => exact Kd.C_kept_own ((Kd.R_types HO158.out (show (World.heap _)[g]? = some (.cells #[.slice Ao19 x1000_2.length co19, .int .i64 x1001_2] 101 (0, 0)) from by (with_reducible repeat (first | refine blk_drewN ?_ _ | refine blk_drew ?_ | refine blk_alloc ?_ _)); exact BK0.out) q5_22)) (fun k_ hk_ hs_ => Or.elim hs_ (fun hs_ => (hk_.1.2) hs_) (fun e_ => (hk_.2) e_))); (case side6 => exact (Kd.R_reads' HO158.out).2.1); rintro e w21 ⟨v160, rfl, ho0, hbx, hb, hkp⟩; refine ⟨_, rfl, ?_⟩; have n0_ := A5_ (hbx); have n1_ := A5_ (Kd.R_mono (ok' := fun k_ => (P0_0_ k_ ∨ w.heap.size ≤ k_) ∧ some k_ ≠ (v160 : Value).ownBlock) (Kd.R_keptB ((Kd.R_types HO158.out (show (World.heap _)[g]? = some (.cells #[.slice Ao19 x1000_2.length co19, .int .i64 x1001_2] 101 (0, 0)) from by (with_reducible repeat (first | refine blk_drewN ?_ _ | refine blk_drew ?_ | refine blk_alloc ?_ _)); exact BK0.out) q5_22)) hkp (fun k_ hk_ hs_ => Or.elim hs_ (fun hs_ => (hk_.1.2) hs_) (fun e_ => (hk_.2) e_))) (fun k_ hk_ => ⟨hk_.1.1.1.1, fun e_ => Or.elim (ho0.1 k_ e_.symm) (fun hs_ => hk_.2.1 (.inl hs_)) (fun hn_ => Nat.not_le.2 hk_.2.2 hn_)⟩)); have n2_ := A5_ (Kd.R_mono (ok' := fun k_ => (P0_0_ k_ ∨ w.heap.size ≤ k_) ∧ some k_ ≠ (.slice Ao20 y156.length co20 : Value).ownBlock) ho0 (fun k_ hk_ => ⟨Or.elim hk_ (fun hs_ => (HO_1000.out.1 k_ (hs_).symm).1) (fun hn_ => (.inr (Nat.le_trans q5_3 hn_))), Or.elim hk_ (fun hs_ => fun e_ => ((((Kd.R_types HO158.out (show (World.heap _)[g]? = some (.cells #[.slice Ao19 x1000_2.length co19, .int .i64 x1001_2] 101 (0, 0)) from by (with_reducible repeat (first | refine blk_drewN ?_ _ | refine blk_drew ?_ | refine blk_alloc ?_ _)); exact BK0.out) q5_22)).1 k_ e_.symm).1.2) hs_) (fun hn_ => (Kd.fresh' (Kd.R_lt (by (with_reducible repeat (first | apply Kd.R_alloc | apply Kd.R_drewN | apply Kd.R_drew)); exact HO158.out)) k_ hn_))⟩)); have n3_ := A5_ (Kept.then_ (S := (fun k_ => (P0_0_ k_) ∨ k_ = g)) q5_6 hkp (fun k_ hs_ => Or.elim hs_ (fun hs_ => (fun e_ => Or.imp_left Or.inl ((HO_1000.out.1 k_ e_.symm).1)) hs_) (fun e_ => .inl (.inr e_)))); have n4_ := A5_ (hb); clear BK0 HO158 HK HB HO_1000; have BK0 := n0_; have HO158 := n1_; have HO161 := n2_; have HK := n3_; have HB := n4_; clear n0_ n1_ n2_ n3_ n4_; (try clear hbx); (try clear hbn); (try clear hgn); (try clear hb); (try clear hkp); (try clear ho0)))
       first | ((try simp only [Exit.inBlock, Exit.then]); refine bodyPost_ret (results_none rfl _ _ _) rfl ?_) | go_end0
       exact ⟨(v160), by first | rfl | (simp [errW_none, errW_some, ptrW_true, ptrW_false] <;> rfl) | (simp [*, errW_none, errW_some, ptrW_true, ptrW_false] <;> rfl), by (with_reducible repeat (first | apply Kd.R_alloc | apply Kd.R_drewN | apply Kd.R_drew)); exact Kd.R_mono HO161.out (fun _ hk => hk.1), q5_4, by repeat (first | (with_reducible first | exact HB.out | apply below_alloc | apply pw_below_drewN | apply below_drew1 | refine below_set ?_ GE0.out) | exact HB.out), by repeat (first | (with_reducible first | exact HK.out | apply Kept.alloc | apply Kept.drewN | apply Kept.drew | refine Kept.setCell ?_ (.inl (.inr rfl)) _) | exact HK.out)⟩

/-! ### cell_Write: function 39 -/
mutual
def cell_Write.l0 : Nat → List (S53) → List (S53) → Int → Int → List Int → Int → Option (List Int × Int)
 | 0, _, _, _, _, _, _ => none
 | k + 1, x1, x8, x9, x10, x1000, x1001 => if x10 < x9 then (if 0 ≤ x10 then (if x10 < (x8.length : Int) then ((cell_Right.f k ((rd_T53 x8 x10).f0) ((rd_T53 x8 x10).f1.f0) ((rd_T53 x8 x10).f1.f1) ((rd_T53 x8 x10).f1.f2)).bind fun t165 => (if t165 = true then (cell_Write.l0 k x1 x8 x9 (wrap64 (x10 + 1)) x1000 x1001) else ((codec_Writer_Fail.f x1000 x1001 1).bind fun bt166 => (some (bt166.1, bt166.2))))) else (none)) else (none)) else ((cell_Runs.f k x1).bind fun t170 => (cell_Write.l1 k t170 (t170.length : Int) 0 x1000 x1001))
def cell_Write.l1 : Nat → List (S55) → Int → Int → List Int → Int → Option (List Int × Int)
 | 0, _, _, _, _, _ => none
 | k + 1, x21, x22, x23, x1000, x1001 => if x23 < x22 then (if 0 ≤ x23 then (if x23 < (x21.length : Int) then ((codec_Writer_Number.f k x1000 x1001 ((rd_T55 x21 x23).f0)).bind fun bt175 => ((codec_Writer_Number.f k bt175.1 bt175.2 (wrap64 ((rd_T55 x21 x23).f1.f0))).bind fun bt179 => ((codec_Writer_Number.f k bt179.1 bt179.2 ((rd_T55 x21 x23).f1.f1.f0)).bind fun bt183 => ((codec_Writer_Number.f k bt183.1 bt183.2 ((rd_T55 x21 x23).f1.f1.f1)).bind fun bt187 => ((codec_Writer_Number.f k bt187.1 bt187.2 ((rd_T55 x21 x23).f1.f1.f2)).bind fun bt191 => (cell_Write.l1 k x21 x22 (wrap64 (x23 + 1)) bt191.1 bt191.2)))))) else (none)) else (none)) else (some (x1000, x1001))
end
def cell_Write.f (k : Nat) (l0_0 : List Int) (a0_1 : Int) (l1 : List (S53)) : Option (List Int × Int) := cell_Write.l0 k l1 l1 (l1.length : Int) 0 l0_0 a0_1
theorem cell_Write.mono_l : ∀ k, (∀ y0 y1 y2 y3 y4 y5, LeO (cell_Write.l0 k y0 y1 y2 y3 y4 y5) (cell_Write.l0 (k + 1) y0 y1 y2 y3 y4 y5)) ∧ (∀ y0 y1 y2 y3 y4, LeO (cell_Write.l1 k y0 y1 y2 y3 y4) (cell_Write.l1 (k + 1) y0 y1 y2 y3 y4))
 | 0 => ⟨fun _ _ _ _ _ _ r h => by simp [cell_Write.l0] at h, fun _ _ _ _ _ r h => by simp [cell_Write.l1] at h⟩
 | k + 1 => by
  obtain ⟨ih0, ih1⟩ := cell_Write.mono_l k
  refine ⟨?_, ?_⟩
  ·intro y0 y1 y2 y3 y4 y5
   unfold cell_Write.l0
   repeat' first
   | (with_reducible exact ih0 _ _ _ _ _ _)
   | (with_reducible exact ih1 _ _ _ _ _)
   | (with_reducible exact cell_Right.mono _ _ _ _ _)
   | (with_reducible exact cell_Runs.mono _ _)
   | (with_reducible exact codec_Writer_Number.mono _ _ _ _)
   | (with_reducible exact LeO.refl _)
   | (with_reducible exact LeO.none _)
   | (with_reducible refine LeO.ite ?_ ?_)
   | (with_reducible refine LeO.bind ?_ (fun _ => ?_))
   | exact ih0 _ _ _ _ _ _
   | exact ih1 _ _ _ _ _
   | exact cell_Right.mono _ _ _ _ _
   | exact cell_Runs.mono _ _
   | exact codec_Writer_Number.mono _ _ _ _
   | exact LeO.none _
   | refine LeO.ite ?_ ?_
   | refine LeO.bind ?_ (fun _ => ?_)
  ·intro y0 y1 y2 y3 y4
   unfold cell_Write.l1
   repeat' first
   | (with_reducible exact ih0 _ _ _ _ _ _)
   | (with_reducible exact ih1 _ _ _ _ _)
   | (with_reducible exact cell_Right.mono _ _ _ _ _)
   | (with_reducible exact cell_Runs.mono _ _)
   | (with_reducible exact codec_Writer_Number.mono _ _ _ _)
   | (with_reducible exact LeO.refl _)
   | (with_reducible exact LeO.none _)
   | (with_reducible refine LeO.ite ?_ ?_)
   | (with_reducible refine LeO.bind ?_ (fun _ => ?_))
   | exact ih0 _ _ _ _ _ _
   | exact ih1 _ _ _ _ _
   | exact cell_Right.mono _ _ _ _ _
   | exact cell_Runs.mono _ _
   | exact codec_Writer_Number.mono _ _ _ _
   | exact LeO.none _
   | refine LeO.ite ?_ ?_
   | refine LeO.bind ?_ (fun _ => ?_)
theorem cell_Write.mono : ∀ a0 a1 a2 k, LeO (cell_Write.f k a0 a1 a2) (cell_Write.f (k + 1) a0 a1 a2) := by
 intro a0 a1 a2 k
 obtain ⟨ih0, ih1⟩ := cell_Write.mono_l k
 unfold cell_Write.f
 repeat' first
   | (with_reducible exact ih0 _ _ _ _ _ _)
   | (with_reducible exact ih1 _ _ _ _ _)
   | (with_reducible exact cell_Right.mono _ _ _ _ _)
   | (with_reducible exact cell_Runs.mono _ _)
   | (with_reducible exact codec_Writer_Number.mono _ _ _ _)
   | (with_reducible exact LeO.refl _)
   | (with_reducible exact LeO.none _)
   | (with_reducible refine LeO.ite ?_ ?_)
   | (with_reducible refine LeO.bind ?_ (fun _ => ?_))
   | exact ih0 _ _ _ _ _ _
   | exact ih1 _ _ _ _ _
   | exact cell_Right.mono _ _ _ _ _
   | exact cell_Runs.mono _ _
   | exact codec_Writer_Number.mono _ _ _ _
   | exact LeO.none _
   | refine LeO.ite ?_ ?_
   | refine LeO.bind ?_ (fun _ => ?_)
set_option maxHeartbeats 8000000 in
set_option maxRecDepth 100000 in
theorem cell_Write.calls (k : Nat) (g : Nat) (P0_0_ : Nat → Prop) (u9000_ : Value) (l0_0 : List Int) (a0_1 : Int) (A1 : Option Addr) (c1 : Nat) (l1 : List (S53)) (r1 : List Int) (r2 : Int) (w0 w : World) (hb : w.heap[g]? = some (.cells #[u9000_, .int .i64 a0_1] 101 (0, 0))) (hg : w0.heap.size ≤ g) (hB : Below w0.heap.size w0 w) (ho0_0 : Kd.R (Kd.int .u8) 5 w w0.heap.size P0_0_ u9000_ l0_0) (hr1 : ∀ W_, Kept w W_ (fun k_ => (P0_0_ k_) ∨ k_ = g) → Kd.C k53 W_ A1 l1.length l1) (hc1 : l1.length ≤ c1) (h : cell_Write.f k l0_0 a0_1 l1 = some (r1, r2)) :
  Calls Try.prog 39 #[.pointer (some ⟨g, 0, none⟩), .slice A1 l1.length c1] w fun e w' => ∃ v0_ : Value, Aside0 (e = .returned (.tuple #[]) ∧ Kd.R (Kd.int .u8) 5 w' w0.heap.size (fun k_ => (P0_0_ k_ ∨ w.heap.size ≤ k_)) v0_ r1 ∧ w'.heap[g]? = some (.cells #[v0_, .int .i64 r2] 101 (0, 0)) ∧ Below w0.heap.size w0 w' ∧ Kept w w' (fun k_ => (P0_0_ k_) ∨ k_ = g)) := by
 have hu53 := Try.underlying53
 have hu55 := Try.underlying55
 have HO0_0 := A5_ (show Kd.R (Kd.int .u8) 5 w w0.heap.size (fun k_ => (P0_0_ k_ ∨ w.heap.size ≤ k_)) u9000_ l0_0 from Kd.R_mono ho0_0 (fun k_ hk => (.inl hk)))
 have HR1 := A5_ hr1
 have HC1 := A5_ hc1
 clear hr1 hc1
 have HK := A5_ (Kept.refl w (fun k_ => (P0_0_ k_) ∨ k_ = g))
 have BK0 := A5_ hb
 have GE0 := A5_ hg
 clear hb hg
 have HW0 := A5_ hB.size
 have HB := A5_ hB
 clear hB
 have H : (cell_Write.l0 k l1 l1 (l1.length : Int) 0 l0_0 a0_1) = some (r1, r2) := h
 clear h
 have H' := A5_ H
 clear H
 go_enter Try.func39, Try.ntmps39
 go_wp2
 go_loopg [10] k (fun kq v10 w' => ∃ (x10_1 : Int) (x1000_1 : List Int) (x1001_1 : Int) (u1000 : Value), v10 = .int .i64 x10_1 ∧ Aside0 (cell_Write.l0 kq l1 l1 (l1.length : Int) x10_1 x1000_1 x1001_1 = some (r1, r2)) ∧ Aside0 (kq ≤ k) ∧ Aside0 (Kd.R (Kd.int .u8) 5 w' w0.heap.size (fun k_ => (P0_0_ k_ ∨ w.heap.size ≤ k_)) u1000 x1000_1) ∧ Aside0 (w'.heap[g]? = some (.cells #[u1000, .int .i64 x1001_1] 101 (0, 0))) ∧ Aside0 (Kept w w' (fun k_ => (P0_0_ k_) ∨ k_ = g)) ∧ Aside0 (Below w0.heap.size w0 w'))
 case atStart => exact ⟨(0), (l0_0), (a0_1), (u9000_), q5_19, H', ⟨Nat.le_refl _⟩, ⟨by (with_reducible repeat (first | apply Kd.R_alloc | apply Kd.R_drewN | apply Kd.R_drew)); exact HO0_0.out⟩, ⟨by (with_reducible repeat (first | refine blk_drewN ?_ _ | refine blk_drew ?_ | refine blk_alloc ?_ _)); exact BK0.out⟩, ⟨by repeat (first | (with_reducible first | exact HK.out | apply Kept.alloc | apply Kept.drewN | apply Kept.drew | refine Kept.setCell ?_ (.inl (.inr rfl)) _) | exact HK.out)⟩, ⟨by repeat (first | (with_reducible first | exact HB.out | apply below_alloc | apply pw_below_drewN | apply below_drew1 | refine below_set ?_ GE0.out) | exact HB.out)⟩⟩
 case round =>
  clear H'
  try clear c1
  try clear p2
  obtain ⟨x10_1, x1000_1, x1001_1, u1000, rfl, HA, HK1, HO_1000, BK0, HK, HB⟩ := hrel
  cases gk with
  | zero => exact absurd HA.out (by simp [cell_Write.l0])
  | succ k1 =>
   have H := HA.out
   clear HA
   simp only [cell_Write.l0] at H
   by_cases c3 : x10_1 < (l1.length : Int)
   ·rw [if_pos c3] at H
    have c3b0 : decide (x10_1 < (l1.length : Int)) = true := decide_eq_true c3
    clear c3
    by_cases c4 : 0 ≤ x10_1
    ·rw [if_pos c4] at H
     have c4b0 : decide (0 ≤ x10_1) = true := decide_eq_true c4
     clear c4
     by_cases c5 : x10_1 < (l1.length : Int)
     ·rw [if_pos c5] at H
      have c5b0 : decide (x10_1 < (l1.length : Int)) = true := decide_eq_true c5
      clear c5
      replace H := Option.bind_eq_some_iff.mp H
      obtain ⟨t165, A60, H⟩ := H
      replace H : (if t165 = true then (cell_Write.l0 k1 l1 l1 (l1.length : Int) (wrap64 (x10_1 + 1)) x1000_1 x1001_1) else ((codec_Writer_Fail.f x1000_1 x1001_1 1).bind fun bt166 => (some (bt166.1, bt166.2)))) = some (r1, r2) := H
      have A6 := A5_ A60
      clear A60
      by_cases c7 : t165 = true
      ·subst c7
       have H1 : (cell_Write.l0 k1 l1 l1 (l1.length : Int) (wrap64 (x10_1 + 1)) x1000_1 x1001_1) = some (r1, r2) := by rw [if_pos rfl] at H; exact H
       clear H
       have H := H1
       clear H1
       have H' := A5_ H
       clear H
       have p163 : 0 ≤ (x10_1 : Int) := of_decide_eq_true q5_16
       have q163 : x10_1 < (l1.length : Int) := of_decide_eq_true q5_16
       obtain ⟨ad163, e163, hx163_0, hx163_1, hx163_2, hx163_3⟩ := at_T53 (Kd.C_kept_now HR1.out HK.out) x10_1 p163 q163
       cases e163
       replace p163 := eq_true p163
       replace q163 := eq_true q163
       go_wp2_with (first | ((with_reducible refine gate_dst (N := 5) rfl ?_); refine box_event ?hg (N := 5) ?hd (cs := #[.int .i32 0, .int .i64 0, .int .i64 0, .int .i64 0]) (t := 53) ?hr ?_; (case hd => rfl); (case hg => rfl); (case hr => first | (go_simp; done) | (go_simp; rfl)); intro gb164 hg w8 hbox hb; have n0_ := A5_ (Kd.R_below q5_12 hb); have n1_ := A5_ (blk_below (g := g) (o := .cells #[u1000, .int .i64 x1001_1] 101 (0, 0)) q5_4 hb); have n2_ := A5_ (Kept.below (S := (fun k_ => (P0_0_ k_) ∨ k_ = g)) q5_6 hb); have n3_ := A5_ (below_step q5_5 hb); have n4_ := A5_ (hbox); have n5_ := A5_ ((by rw [hg]; exact q5_3 : w.heap.size ≤ gb164)); have n6_ := A5_ ((by rw [hg]; exact (below_size q5_5) : w0.heap.size ≤ gb164)); have n7_ := A5_ ((by rw [hg]; exact Nat.ne_of_lt (blk_lt (g := g) (o := .cells #[u1000, .int .i64 x1001_1] 101 (0, 0)) q5_4) : g ≠ gb164)); have n8_ := A5_ ((by rw [hg]; exact Nat.ne_of_gt (blk_lt (g := g) (o := .cells #[u1000, .int .i64 x1001_1] 101 (0, 0)) q5_4) : gb164 ≠ g)); clear HO_1000 BK0 HK HB; have HO_1000 := n0_; have BK0 := n1_; have HK := n2_; have HB := n3_; have BK164 := n4_; have GW164 := n5_; have GE164 := n6_; have NB0_164 := n7_; have NB164_0 := n8_; clear n0_ n1_ n2_ n3_ n4_ n5_ n6_ n7_ n8_; clear hb hbox hg; have hnb9 := NB164_0.out; have hnc9 := NB0_164.out; have hcz10_0 : w8.cell? ⟨gb164, 0, none⟩ = some (.int .i32 0) := bc5_ BK164 0; have hcz10_1 : w8.cell? ⟨gb164, 1, none⟩ = some (.int .i64 0) := bc5_ BK164 1; have hcz10_2 : w8.cell? ⟨gb164, 2, none⟩ = some (.int .i64 0) := bc5_ BK164 2; have hcz10_3 : w8.cell? ⟨gb164, 3, none⟩ = some (.int .i64 0) := bc5_ BK164 3; have hfz10_0 := blk_frozen BK164.out 0; have hfz10_1 := blk_frozen BK164.out 1; have hfz10_2 := blk_frozen BK164.out 2; have hfz10_3 := blk_frozen BK164.out 3) | ((with_reducible refine gate_callee (f := 35) rfl ?_); refine goesL_ (some 15) rfl rfl Try.func35 (by kernel_rfl) rfl #[.agg #[.int .i32 ((rd_T53 l1 x10_1).f0), .int .i64 ((rd_T53 l1 x10_1).f1.f0), .int .i64 ((rd_T53 l1 x10_1).f1.f1), .int .i64 ((rd_T53 l1 x10_1).f1.f2)]] rfl q5_7 ?_; (with_reducible refine (cell_Right.calls k1 ((rd_T53 l1 x10_1).f0) ((rd_T53 l1 x10_1).f1.f0) ((rd_T53 l1 x10_1).f1.f1) ((rd_T53 l1 x10_1).f1.f2) true _ A6.out).mono ?_); rintro e w11 ⟨rfl, hb⟩; refine ⟨_, rfl, ?_⟩; have n0_ := A5_ (Kd.R_below q5_15 hb); have n1_ := A5_ (blk_below (g := g) (o := .cells #[u1000, .int .i64 x1001_1] 101 (0, 0)) q5_14 hb); have n2_ := A5_ (blk_below (g := gb164) (o := .cells #[.int .i32 ((rd_T53 l1 x10_1).f0), .int .i64 ((rd_T53 l1 x10_1).f1.f0), .int .i64 ((rd_T53 l1 x10_1).f1.f1), .int .i64 ((rd_T53 l1 x10_1).f1.f2)] 53 (0, 0)) q5_10 hb); have n3_ := A5_ (Kept.below (S := (fun k_ => (P0_0_ k_) ∨ k_ = g)) q5_18 hb); have n4_ := A5_ (below_step q5_21 hb); clear HO_1000 BK0 BK164 HK HB; have HO_1000 := n0_; have BK0 := n1_; have BK164 := n2_; have HK := n3_; have HB := n4_; clear n0_ n1_ n2_ n3_ n4_; (try clear hb); (try clear hb2); (try clear hk); (try clear hi)))
       go_roundg k1
       case measure => have := HK1.out; omega
       case rel => exact ⟨(wrap64 (x10_1 + 1)), (x1000_1), (x1001_1), (u1000), q5_19, H', ⟨by have := HK1.out; omega⟩, ⟨by (with_reducible repeat (first | apply Kd.R_alloc | apply Kd.R_drewN | apply Kd.R_drew)); exact HO_1000.out⟩, ⟨by (with_reducible repeat (first | refine blk_drewN ?_ _ | refine blk_drew ?_ | refine blk_alloc ?_ _)); exact BK0.out⟩, ⟨by repeat (first | (with_reducible first | exact HK.out | apply Kept.alloc | apply Kept.drewN | apply Kept.drew | refine Kept.setCell ?_ (.inl (.inr rfl)) _ | refine Kept.setCell ?_ (.inr GW164.out) _) | exact HK.out)⟩, ⟨by repeat (first | (with_reducible first | exact HB.out | apply below_alloc | apply pw_below_drewN | apply below_drew1 | refine below_set ?_ GE0.out | refine below_set ?_ GE164.out) | exact HB.out)⟩⟩
      ·replace c7 := Bool.eq_false_iff.mpr c7
       subst c7
       have H1 : ((codec_Writer_Fail.f x1000_1 x1001_1 1).bind fun bt166 => (some (bt166.1, bt166.2))) = some (r1, r2) := by rw [if_neg (show ¬ (false = true) by decide)] at H; exact H
       clear H
       have H := H1
       clear H1
       replace H := Option.bind_eq_some_iff.mp H
       obtain ⟨⟨t166, t169⟩, A120, H⟩ := H
       replace H : (some (t166, t169)) = some (r1, r2) := H
       have A12 := A5_ A120
       clear A120
       simp only [Option.some.injEq, Prod.mk.injEq] at H
       obtain ⟨rfl, rfl⟩ := H
       have p163 : 0 ≤ (x10_1 : Int) := of_decide_eq_true q5_16
       have q163 : x10_1 < (l1.length : Int) := of_decide_eq_true q5_16
       obtain ⟨ad163, e163, hx163_0, hx163_1, hx163_2, hx163_3⟩ := at_T53 (Kd.C_kept_now HR1.out HK.out) x10_1 p163 q163
       cases e163
       replace p163 := eq_true p163
       replace q163 := eq_true q163
       go_wp2_with (first | ((with_reducible refine gate_dst (N := 5) rfl ?_); refine box_event ?hg (N := 5) ?hd (cs := #[.int .i32 0, .int .i64 0, .int .i64 0, .int .i64 0]) (t := 53) ?hr ?_; (case hd => rfl); (case hg => rfl); (case hr => first | (go_simp; done) | (go_simp; rfl)); intro gb164 hg w13 hbox hb; have n0_ := A5_ (Kd.R_below q5_12 hb); have n1_ := A5_ (blk_below (g := g) (o := .cells #[u1000, .int .i64 x1001_1] 101 (0, 0)) q5_4 hb); have n2_ := A5_ (Kept.below (S := (fun k_ => (P0_0_ k_) ∨ k_ = g)) q5_6 hb); have n3_ := A5_ (below_step q5_5 hb); have n4_ := A5_ (hbox); have n5_ := A5_ ((by rw [hg]; exact q5_3 : w.heap.size ≤ gb164)); have n6_ := A5_ ((by rw [hg]; exact (below_size q5_5) : w0.heap.size ≤ gb164)); have n7_ := A5_ ((by rw [hg]; exact Nat.ne_of_lt (blk_lt (g := g) (o := .cells #[u1000, .int .i64 x1001_1] 101 (0, 0)) q5_4) : g ≠ gb164)); have n8_ := A5_ ((by rw [hg]; exact Nat.ne_of_gt (blk_lt (g := g) (o := .cells #[u1000, .int .i64 x1001_1] 101 (0, 0)) q5_4) : gb164 ≠ g)); clear HO_1000 BK0 HK HB; have HO_1000 := n0_; have BK0 := n1_; have HK := n2_; have HB := n3_; have BK164 := n4_; have GW164 := n5_; have GE164 := n6_; have NB0_164 := n7_; have NB164_0 := n8_; clear n0_ n1_ n2_ n3_ n4_ n5_ n6_ n7_ n8_; clear hb hbox hg; have hnb14 := NB164_0.out; have hnc14 := NB0_164.out; have hcz15_0 : w13.cell? ⟨gb164, 0, none⟩ = some (.int .i32 0) := bc5_ BK164 0; have hcz15_1 : w13.cell? ⟨gb164, 1, none⟩ = some (.int .i64 0) := bc5_ BK164 1; have hcz15_2 : w13.cell? ⟨gb164, 2, none⟩ = some (.int .i64 0) := bc5_ BK164 2; have hcz15_3 : w13.cell? ⟨gb164, 3, none⟩ = some (.int .i64 0) := bc5_ BK164 3; have hfz15_0 := blk_frozen BK164.out 0; have hfz15_1 := blk_frozen BK164.out 1; have hfz15_2 := blk_frozen BK164.out 2; have hfz15_3 := blk_frozen BK164.out 3) | ((with_reducible refine gate_callee (f := 35) rfl ?_); refine goesL_ (some 15) rfl rfl Try.func35 (by kernel_rfl) rfl #[.agg #[.int .i32 ((rd_T53 l1 x10_1).f0), .int .i64 ((rd_T53 l1 x10_1).f1.f0), .int .i64 ((rd_T53 l1 x10_1).f1.f1), .int .i64 ((rd_T53 l1 x10_1).f1.f2)]] rfl q5_7 ?_; (with_reducible refine (cell_Right.calls k1 ((rd_T53 l1 x10_1).f0) ((rd_T53 l1 x10_1).f1.f0) ((rd_T53 l1 x10_1).f1.f1) ((rd_T53 l1 x10_1).f1.f2) false _ A6.out).mono ?_); rintro e w16 ⟨rfl, hb⟩; refine ⟨_, rfl, ?_⟩; have n0_ := A5_ (Kd.R_below q5_15 hb); have n1_ := A5_ (blk_below (g := g) (o := .cells #[u1000, .int .i64 x1001_1] 101 (0, 0)) q5_14 hb); have n2_ := A5_ (blk_below (g := gb164) (o := .cells #[.int .i32 ((rd_T53 l1 x10_1).f0), .int .i64 ((rd_T53 l1 x10_1).f1.f0), .int .i64 ((rd_T53 l1 x10_1).f1.f1), .int .i64 ((rd_T53 l1 x10_1).f1.f2)] 53 (0, 0)) q5_10 hb); have n3_ := A5_ (Kept.below (S := (fun k_ => (P0_0_ k_) ∨ k_ = g)) q5_18 hb); have n4_ := A5_ (below_step q5_21 hb); clear HO_1000 BK0 BK164 HK HB; have HO_1000 := n0_; have BK0 := n1_; have BK164 := n2_; have HK := n3_; have HB := n4_; clear n0_ n1_ n2_ n3_ n4_; (try clear hb); (try clear hb2); (try clear hk); (try clear hi); obtain ⟨Ao17, co17, eo17⟩ := Kd.R_slice HO_1000.out; subst eo17) | ((with_reducible refine gate_callee (f := 66) rfl ?_); refine goesL_ (some 18) rfl rfl Try.func66 (by kernel_rfl) rfl #[.pointer (some ⟨g, 0, none⟩), .int .i64 1] rfl q5_7 ?_; (with_reducible refine (codec_Writer_Fail.calls g (fun k_ => some k_ = (.slice Ao17 x1000_1.length co17 : Value).ownBlock) (.slice Ao17 x1000_1.length co17) x1000_1 x1001_1 1 t166 t169 w0 _ ?side2 ?side3 ?side1 ?side4 A12.out).mono ?_); (case side1 => repeat (first | (with_reducible first | exact HB.out | apply below_alloc | apply pw_below_drewN | apply below_drew1 | refine below_set ?_ GE0.out | refine below_set ?_ GE164.out) | exact HB.out)); (case side2 => (with_reducible repeat (first | refine blk_drewN ?_ _ | refine blk_drew ?_ | refine blk_alloc ?_ _)); exact BK0.out); (case side3 => exact GE0.out); (case side4 => exact Kd.R_tight rfl HO_1000.out); rintro e w18 ⟨v167, rfl, ho0, hbx, hb, hkp⟩; refine ⟨_, rfl, ?_⟩; have n0_ := A5_ (hbx); have n1_ := A5_ (blk_kept (by (with_reducible repeat (first | refine blk_drewN ?_ _ | refine blk_drew ?_ | refine blk_alloc ?_ _)); exact BK164.out) hkp (fun hs_ => Or.elim hs_ (fun hs_ => (fun e_ => (Kd.R_ne HO_1000.out BK164.out q5_22) e_) hs_) (fun e_ => NB164_0.out e_))); have n2_ := A5_ (Kd.R_mono (ok' := fun k_ => (P0_0_ k_ ∨ w.heap.size ≤ k_)) ho0 (fun k_ hk_ => Or.elim hk_ (fun hs_ => (HO_1000.out.1 k_ (hs_).symm)) (fun hn_ => (.inr (Nat.le_trans (by first | exact HK.out.1 | exact (show Kept w _ (fun k_ => (P0_0_ k_) ∨ k_ = g) from by repeat (first | (with_reducible first | exact HK.out | apply Kept.alloc | apply Kept.drewN | apply Kept.drew | refine Kept.setCell ?_ (.inl (.inr rfl)) _ | refine Kept.setCell ?_ (.inr GW164.out) _) | exact HK.out)).1) hn_))))); have n3_ := A5_ (Kept.then_ (S := (fun k_ => (P0_0_ k_) ∨ k_ = g)) q5_18 hkp (fun k_ hs_ => Or.elim hs_ (fun hs_ => (fun e_ => Or.imp_left Or.inl ((HO_1000.out.1 k_ e_.symm))) hs_) (fun e_ => .inl (.inr e_)))); have n4_ := A5_ (hb); clear BK0 BK164 HK HB HO_1000; have BK0 := n0_; have BK164 := n1_; have HO168 := n2_; have HK := n3_; have HB := n4_; clear n0_ n1_ n2_ n3_ n4_; (try clear hbx); (try clear hbn); (try clear hgn); (try clear hb); (try clear hkp); (try clear ho0)))
       first | ((try simp only [Exit.inBlock, Exit.then]); refine bodyPost_ret (results_none rfl _ _ _) rfl ?_) | go_end0
       exact ⟨(v167), by first | rfl | (simp [errW_none, errW_some, ptrW_true, ptrW_false] <;> rfl) | (simp [*, errW_none, errW_some, ptrW_true, ptrW_false] <;> rfl), by (with_reducible repeat (first | apply Kd.R_alloc | apply Kd.R_drewN | apply Kd.R_drew)); exact HO168.out, q5_4, by repeat (first | (with_reducible first | exact HB.out | apply below_alloc | apply pw_below_drewN | apply below_drew1 | refine below_set ?_ GE0.out | refine below_set ?_ GE164.out) | exact HB.out), by repeat (first | (with_reducible first | exact HK.out | apply Kept.alloc | apply Kept.drewN | apply Kept.drew | refine Kept.setCell ?_ (.inl (.inr rfl)) _ | refine Kept.setCell ?_ (.inr GW164.out) _) | exact HK.out)⟩
     ·rw [if_neg c5] at H
      exact absurd H (by simp)
    ·rw [if_neg c4] at H
     exact absurd H (by simp)
   ·rw [if_neg c3] at H
    have c3b0 : decide (x10_1 < (l1.length : Int)) = false := decide_eq_false c3
    clear c3
    replace H := Option.bind_eq_some_iff.mp H
    obtain ⟨t170, A190, H⟩ := H
    replace H : (cell_Write.l1 k1 t170 (t170.length : Int) 0 x1000_1 x1001_1) = some (r1, r2) := H
    have A19 := A5_ A190
    clear A190
    have H' := A5_ H
    clear H
    go_wp2_with (first | ((with_reducible refine gate_callee (f := 31) rfl ?_); refine goesL_ (some 21) rfl rfl Try.func31 (by kernel_rfl) rfl #[.slice A1 l1.length c1] rfl q5_7 ?_; (with_reducible refine (cell_Runs.calls k1 _ _ l1 t170 _ ?side1 ?side2 A19.out).mono ?_); (case side1 => exact Kd.C_kept_now HR1.out q5_6); (case side2 => exact HC1.out); rintro e w20 ⟨v171, rfl, ho0, hb⟩; refine ⟨_, rfl, ?_⟩; have n0_ := A5_ (Kd.R_below q5_12 hb); have n1_ := A5_ (Kd.R_lower (Kd.R_newM (M := fun k_ => (P0_0_ k_ ∨ w.heap.size ≤ k_)) ho0 q5_3 (fun k_ h_ => .inr h_)) (below_size q5_5)); have n2_ := A5_ (blk_below (g := g) (o := .cells #[u1000, .int .i64 x1001_1] 101 (0, 0)) q5_4 hb); have n3_ := A5_ (Kept.below (S := (fun k_ => (P0_0_ k_) ∨ k_ = g)) q5_6 hb); have n4_ := A5_ (below_step q5_5 hb); clear HO_1000 BK0 HK HB; have HO_1000 := n0_; have HO172 := n1_; have BK0 := n2_; have HK := n3_; have HB := n4_; clear n0_ n1_ n2_ n3_ n4_; (try clear hb); (try clear hb2); (try clear hk); (try clear hi); (try clear ho0); obtain ⟨Ao21, co21, eo21⟩ := Kd.R_slice HO172.out; subst eo21))
    go_loopg [23] k1 (fun kq v23 w' => ∃ (x23_2 : Int) (x1000_2 : List Int) (x1001_2 : Int) (u1000 : Value), v23 = .int .i64 x23_2 ∧ Aside0 (cell_Write.l1 kq t170 (t170.length : Int) x23_2 x1000_2 x1001_2 = some (r1, r2)) ∧ Aside0 (kq ≤ k1) ∧ Aside0 (Kd.R k55 55 w' w0.heap.size (fun k_ => (P0_0_ k_ ∨ w.heap.size ≤ k_)) (.slice Ao21 t170.length co21) t170) ∧ Aside0 (Kd.R (Kd.int .u8) 5 w' w0.heap.size (fun k_ => (P0_0_ k_ ∨ w.heap.size ≤ k_)) u1000 x1000_2) ∧ Aside0 (w'.heap[g]? = some (.cells #[u1000, .int .i64 x1001_2] 101 (0, 0))) ∧ Aside0 (Kept w w' (fun k_ => (P0_0_ k_) ∨ k_ = g)) ∧ Aside0 (Below w0.heap.size w0 w'))
    case atStart => exact ⟨(0), (x1000_1), (x1001_1), (u1000), q5_19, H', ⟨Nat.le_refl _⟩, ⟨by (with_reducible repeat (first | apply Kd.R_alloc | apply Kd.R_drewN | apply Kd.R_drew)); exact Kd.R_mono HO172.out (fun _ hk => hk.1)⟩, ⟨by (with_reducible repeat (first | apply Kd.R_alloc | apply Kd.R_drewN | apply Kd.R_drew)); exact HO_1000.out⟩, ⟨by (with_reducible repeat (first | refine blk_drewN ?_ _ | refine blk_drew ?_ | refine blk_alloc ?_ _)); exact BK0.out⟩, ⟨by repeat (first | (with_reducible first | exact HK.out | apply Kept.alloc | apply Kept.drewN | apply Kept.drew | refine Kept.setCell ?_ (.inl (.inr rfl)) _) | exact HK.out)⟩, ⟨by repeat (first | (with_reducible first | exact HB.out | apply below_alloc | apply pw_below_drewN | apply below_drew1 | refine below_set ?_ GE0.out) | exact HB.out)⟩⟩
    case round =>
     clear H'
     try clear c1
     try clear p1
     try clear q1
     try clear hx1
     try clear p2
     try clear c3
     try clear c3b0
     try clear c4
     try clear c4b0
     try clear c5
     try clear c5b0
     try clear c6
     try clear p6
     try clear c7
     try clear c9
     try clear c14
     try clear p16
     try clear q16
     try clear hx16
     try clear hcz10_0
     try clear hcz10_1
     try clear hcz10_2
     try clear hcz10_3
     try clear hcz15_0
     try clear hcz15_1
     try clear hcz15_2
     try clear hcz15_3
     try clear hfz10_0
     try clear hfz10_1
     try clear hfz10_2
     try clear hfz10_3
     try clear hfz15_0
     try clear hfz15_1
     try clear hfz15_2
     try clear hfz15_3
     try clear hx163_0
     try clear hx163_1
     try clear hx163_2
     try clear hx163_3
     try clear p163
     try clear p2
     try clear q163
     obtain ⟨x23_2, x1000_2, x1001_2, u1000, rfl, HA, HK2, HO_21, HO_1000, BK0, HK, HB⟩ := hrel
     cases gk with
     | zero => exact absurd HA.out (by simp [cell_Write.l1])
     | succ k2 =>
      have H := HA.out
      clear HA
      simp only [cell_Write.l1] at H
      by_cases c22 : x23_2 < (t170.length : Int)
      ·rw [if_pos c22] at H
       have c22b0 : decide (x23_2 < (t170.length : Int)) = true := decide_eq_true c22
       clear c22
       by_cases c23 : 0 ≤ x23_2
       ·rw [if_pos c23] at H
        have c23b0 : decide (0 ≤ x23_2) = true := decide_eq_true c23
        clear c23
        by_cases c24 : x23_2 < (t170.length : Int)
        ·rw [if_pos c24] at H
         have c24b0 : decide (x23_2 < (t170.length : Int)) = true := decide_eq_true c24
         clear c24
         replace H := Option.bind_eq_some_iff.mp H
         obtain ⟨⟨t175, t178⟩, A250, H⟩ := H
         replace H : ((codec_Writer_Number.f k2 t175 t178 (wrap64 ((rd_T55 t170 x23_2).f1.f0))).bind fun bt179 => ((codec_Writer_Number.f k2 bt179.1 bt179.2 ((rd_T55 t170 x23_2).f1.f1.f0)).bind fun bt183 => ((codec_Writer_Number.f k2 bt183.1 bt183.2 ((rd_T55 t170 x23_2).f1.f1.f1)).bind fun bt187 => ((codec_Writer_Number.f k2 bt187.1 bt187.2 ((rd_T55 t170 x23_2).f1.f1.f2)).bind fun bt191 => (cell_Write.l1 k2 t170 (t170.length : Int) (wrap64 (x23_2 + 1)) bt191.1 bt191.2))))) = some (r1, r2) := H
         have A25 := A5_ A250
         clear A250
         replace H := Option.bind_eq_some_iff.mp H
         obtain ⟨⟨t179, t182⟩, A260, H⟩ := H
         replace H : ((codec_Writer_Number.f k2 t179 t182 ((rd_T55 t170 x23_2).f1.f1.f0)).bind fun bt183 => ((codec_Writer_Number.f k2 bt183.1 bt183.2 ((rd_T55 t170 x23_2).f1.f1.f1)).bind fun bt187 => ((codec_Writer_Number.f k2 bt187.1 bt187.2 ((rd_T55 t170 x23_2).f1.f1.f2)).bind fun bt191 => (cell_Write.l1 k2 t170 (t170.length : Int) (wrap64 (x23_2 + 1)) bt191.1 bt191.2)))) = some (r1, r2) := H
         have A26 := A5_ A260
         clear A260
         replace H := Option.bind_eq_some_iff.mp H
         obtain ⟨⟨t183, t186⟩, A270, H⟩ := H
         replace H : ((codec_Writer_Number.f k2 t183 t186 ((rd_T55 t170 x23_2).f1.f1.f1)).bind fun bt187 => ((codec_Writer_Number.f k2 bt187.1 bt187.2 ((rd_T55 t170 x23_2).f1.f1.f2)).bind fun bt191 => (cell_Write.l1 k2 t170 (t170.length : Int) (wrap64 (x23_2 + 1)) bt191.1 bt191.2))) = some (r1, r2) := H
         have A27 := A5_ A270
         clear A270
         replace H := Option.bind_eq_some_iff.mp H
         obtain ⟨⟨t187, t190⟩, A280, H⟩ := H
         replace H : ((codec_Writer_Number.f k2 t187 t190 ((rd_T55 t170 x23_2).f1.f1.f2)).bind fun bt191 => (cell_Write.l1 k2 t170 (t170.length : Int) (wrap64 (x23_2 + 1)) bt191.1 bt191.2)) = some (r1, r2) := H
         have A28 := A5_ A280
         clear A280
         replace H := Option.bind_eq_some_iff.mp H
         obtain ⟨⟨t191, t194⟩, A290, H⟩ := H
         replace H : (cell_Write.l1 k2 t170 (t170.length : Int) (wrap64 (x23_2 + 1)) t191 t194) = some (r1, r2) := H
         have A29 := A5_ A290
         clear A290
         have H' := A5_ H
         clear H
         have p173 : 0 ≤ (x23_2 : Int) := of_decide_eq_true q5_16
         have q173 : x23_2 < (t170.length : Int) := of_decide_eq_true q5_16
         obtain ⟨ad173, e173, hx173_0, hx173_1, hx173_2, hx173_3, hx173_4⟩ := at_T55 (Kd.R_reads' HO_21.out).2.2 x23_2 p173 q173
         cases e173
         replace p173 := eq_true p173
         replace q173 := eq_true q173
         go_wp2_with (first | ((with_reducible refine gate_dst (N := 7) rfl ?_); refine box_event ?hg (N := 7) ?hd (cs := #[.int .i64 0, .int .i32 0, .int .i64 0, .int .i64 0, .int .i64 0]) (t := 55) ?hr ?_; (case hd => rfl); (case hg => rfl); (case hr => first | (go_simp; done) | (go_simp; rfl)); intro gb174 hg w30 hbox hb; have n0_ := A5_ (Kd.R_below (Kd.R_elderB (by (with_reducible repeat (first | apply Kd.R_alloc | apply Kd.R_drewN | apply Kd.R_drew)); exact HO_21.out) gb174 (Nat.le_of_eq hg.symm)) hb); have n1_ := A5_ (Kd.R_below q5_12 hb); have n2_ := A5_ (blk_below (g := g) (o := .cells #[u1000, .int .i64 x1001_2] 101 (0, 0)) q5_4 hb); have n3_ := A5_ (Kept.below (S := (fun k_ => (P0_0_ k_) ∨ k_ = g)) q5_6 hb); have n4_ := A5_ (below_step q5_5 hb); have n5_ := A5_ (hbox); have n6_ := A5_ ((by rw [hg]; exact q5_3 : w.heap.size ≤ gb174)); have n7_ := A5_ ((by rw [hg]; exact (below_size q5_5) : w0.heap.size ≤ gb174)); have n8_ := A5_ ((by rw [hg]; exact Nat.ne_of_lt (blk_lt (g := g) (o := .cells #[u1000, .int .i64 x1001_2] 101 (0, 0)) q5_4) : g ≠ gb174)); have n9_ := A5_ ((by rw [hg]; exact Nat.ne_of_gt (blk_lt (g := g) (o := .cells #[u1000, .int .i64 x1001_2] 101 (0, 0)) q5_4) : gb174 ≠ g)); clear HO_21 HO_1000 BK0 HK HB; have HO_21 := n0_; have HO_1000 := n1_; have BK0 := n2_; have HK := n3_; have HB := n4_; have BK174 := n5_; have GW174 := n6_; have GE174 := n7_; have NB0_174 := n8_; have NB174_0 := n9_; clear n0_ n1_ n2_ n3_ n4_ n5_ n6_ n7_ n8_ n9_; clear hb hbox hg; have hnb31 := NB174_0.out; have hnc31 := NB0_174.out; have hcz32_0 : w30.cell? ⟨gb174, 0, none⟩ = some (.int .i64 0) := bc5_ BK174 0; have hcz32_1 : w30.cell? ⟨gb174, 1, none⟩ = some (.int .i32 0) := bc5_ BK174 1; have hcz32_2 : w30.cell? ⟨gb174, 2, none⟩ = some (.int .i64 0) := bc5_ BK174 2; have hcz32_3 : w30.cell? ⟨gb174, 3, none⟩ = some (.int .i64 0) := bc5_ BK174 3; have hcz32_4 : w30.cell? ⟨gb174, 4, none⟩ = some (.int .i64 0) := bc5_ BK174 4; have hfz32_0 := blk_frozen BK174.out 0; have hfz32_1 := blk_frozen BK174.out 1; have hfz32_2 := blk_frozen BK174.out 2; have hfz32_3 := blk_frozen BK174.out 3; have hfz32_4 := blk_frozen BK174.out 4) | ((with_reducible refine gate_store (t := 55) (p := 7) rfl ?_); refine store_event (t := 55) (p := 7) (v := ?vo_w33) (w1 := (((((w30.setCell ⟨gb174, 0, none⟩ (.int .i64 ((rd_T55 t170 x23_2).f0))).setCell ⟨gb174, 1, none⟩ (.int .i32 ((rd_T55 t170 x23_2).f1.f0))).setCell ⟨gb174, 2, none⟩ (.int .i64 ((rd_T55 t170 x23_2).f1.f1.f0))).setCell ⟨gb174, 3, none⟩ (.int .i64 ((rd_T55 t170 x23_2).f1.f1.f1))).setCell ⟨gb174, 4, none⟩ (.int .i64 ((rd_T55 t170 x23_2).f1.f1.f2)))) ?hg ?ho ?hn ?hr ?_; (case ho => rfl); (case hg => rfl); (case hn => rfl); (case hr => first | (go_simp; done) | (go_simp; rfl)); intro w33 hw; have n0_ : Aside0 (Kd.R k55 55 w33 w0.heap.size (fun k_ => (P0_0_ k_ ∨ w.heap.size ≤ k_) ∧ k_ ≠ gb174) (.slice (some ad173) t170.length co21) t170) := ⟨(by rw [hw]; exact (by (with_reducible repeat (first | apply Kd.R_alloc | apply Kd.R_drewN | apply Kd.R_drew)); exact Kd.R_mono (Kd.R_far (p := ⟨gb174, 4, none⟩) (Kd.R_far (p := ⟨gb174, 3, none⟩) (Kd.R_far (p := ⟨gb174, 2, none⟩) (Kd.R_far (p := ⟨gb174, 1, none⟩) (Kd.R_far (p := ⟨gb174, 0, none⟩) (Kd.R_mono HO_21.out (fun k_ hk => (⟨hk, hk.2⟩ : _ ∧ k_ ≠ gb174))) (fun _ hk => hk.2) (.int .i64 ((rd_T55 t170 x23_2).f0))) (fun _ hk => hk.2) (.int .i32 ((rd_T55 t170 x23_2).f1.f0))) (fun _ hk => hk.2) (.int .i64 ((rd_T55 t170 x23_2).f1.f1.f0))) (fun _ hk => hk.2) (.int .i64 ((rd_T55 t170 x23_2).f1.f1.f1))) (fun _ hk => hk.2) (.int .i64 ((rd_T55 t170 x23_2).f1.f1.f2))) (fun _ hk => ⟨hk.1.1, hk.1.2⟩)))⟩; have n1_ : Aside0 (Kd.R (Kd.int .u8) 5 w33 w0.heap.size (fun k_ => (P0_0_ k_ ∨ w.heap.size ≤ k_)) u1000 x1000_2) := ⟨(by rw [hw]; exact (by (with_reducible repeat (first | apply Kd.R_alloc | apply Kd.R_drewN | apply Kd.R_drew)); exact Kd.R_mono (Kd.R_far (p := ⟨gb174, 4, none⟩) (Kd.R_far (p := ⟨gb174, 3, none⟩) (Kd.R_far (p := ⟨gb174, 2, none⟩) (Kd.R_far (p := ⟨gb174, 1, none⟩) (Kd.R_far (p := ⟨gb174, 0, none⟩) (Kd.R_types HO_1000.out BK174.out q5_22) (fun _ hk => hk.2) (.int .i64 ((rd_T55 t170 x23_2).f0))) (fun _ hk => hk.2) (.int .i32 ((rd_T55 t170 x23_2).f1.f0))) (fun _ hk => hk.2) (.int .i64 ((rd_T55 t170 x23_2).f1.f1.f0))) (fun _ hk => hk.2) (.int .i64 ((rd_T55 t170 x23_2).f1.f1.f1))) (fun _ hk => hk.2) (.int .i64 ((rd_T55 t170 x23_2).f1.f1.f2))) (fun _ hk => hk.1)))⟩; have n2_ : Aside0 (w33.heap[g]? = some (.cells #[u1000, .int .i64 x1001_2] 101 (0, 0))) := ⟨(by rw [hw]; exact (by (with_reducible repeat (first | refine blk_drewN ?_ _ | refine blk_drew ?_ | refine blk_alloc ?_ _)); refine blk_far ?_ NB0_174.out _; (with_reducible repeat (first | refine blk_drewN ?_ _ | refine blk_drew ?_ | refine blk_alloc ?_ _)); refine blk_far ?_ NB0_174.out _; (with_reducible repeat (first | refine blk_drewN ?_ _ | refine blk_drew ?_ | refine blk_alloc ?_ _)); refine blk_far ?_ NB0_174.out _; (with_reducible repeat (first | refine blk_drewN ?_ _ | refine blk_drew ?_ | refine blk_alloc ?_ _)); refine blk_far ?_ NB0_174.out _; (with_reducible repeat (first | refine blk_drewN ?_ _ | refine blk_drew ?_ | refine blk_alloc ?_ _)); refine blk_far ?_ NB0_174.out _; (with_reducible repeat (first | refine blk_drewN ?_ _ | refine blk_drew ?_ | refine blk_alloc ?_ _)); exact BK0.out))⟩; have n3_ : Aside0 (w33.heap[gb174]? = some (.cells #[.int .i64 ((rd_T55 t170 x23_2).f0), .int .i32 ((rd_T55 t170 x23_2).f1.f0), .int .i64 ((rd_T55 t170 x23_2).f1.f1.f0), .int .i64 ((rd_T55 t170 x23_2).f1.f1.f1), .int .i64 ((rd_T55 t170 x23_2).f1.f1.f2)] 55 (0, 0))) := ⟨(by rw [hw]; exact (by (with_reducible repeat (first | refine blk_drewN ?_ _ | refine blk_drew ?_ | refine blk_alloc ?_ _)); refine blk_put (cs := #[.int .i64 ((rd_T55 t170 x23_2).f0), .int .i32 ((rd_T55 t170 x23_2).f1.f0), .int .i64 ((rd_T55 t170 x23_2).f1.f1.f0), .int .i64 ((rd_T55 t170 x23_2).f1.f1.f1), .int .i64 0]) ?_ 4 _ rfl; (with_reducible repeat (first | refine blk_drewN ?_ _ | refine blk_drew ?_ | refine blk_alloc ?_ _)); refine blk_put (cs := #[.int .i64 ((rd_T55 t170 x23_2).f0), .int .i32 ((rd_T55 t170 x23_2).f1.f0), .int .i64 ((rd_T55 t170 x23_2).f1.f1.f0), .int .i64 0, .int .i64 0]) ?_ 3 _ rfl; (with_reducible repeat (first | refine blk_drewN ?_ _ | refine blk_drew ?_ | refine blk_alloc ?_ _)); refine blk_put (cs := #[.int .i64 ((rd_T55 t170 x23_2).f0), .int .i32 ((rd_T55 t170 x23_2).f1.f0), .int .i64 0, .int .i64 0, .int .i64 0]) ?_ 2 _ rfl; (with_reducible repeat (first | refine blk_drewN ?_ _ | refine blk_drew ?_ | refine blk_alloc ?_ _)); refine blk_put (cs := #[.int .i64 ((rd_T55 t170 x23_2).f0), .int .i32 0, .int .i64 0, .int .i64 0, .int .i64 0]) ?_ 1 _ rfl; (with_reducible repeat (first | refine blk_drewN ?_ _ | refine blk_drew ?_ | refine blk_alloc ?_ _)); refine blk_put (cs := #[.int .i64 0, .int .i32 0, .int .i64 0, .int .i64 0, .int .i64 0]) ?_ 0 _ rfl; (with_reducible repeat (first | refine blk_drewN ?_ _ | refine blk_drew ?_ | refine blk_alloc ?_ _)); exact BK174.out))⟩; have n4_ : Aside0 (Kept w w33 (fun k_ => (P0_0_ k_) ∨ k_ = g)) := ⟨(by rw [hw]; exact q5_9)⟩; have n5_ : Aside0 (Below w0.heap.size w0 w33) := ⟨(by rw [hw]; exact (by repeat (first | (with_reducible first | exact HB.out | apply below_alloc | apply pw_below_drewN | apply below_drew1 | refine below_set ?_ GE0.out | refine below_set ?_ GE174.out) | exact HB.out)))⟩; clear hw HO_21 HO_1000 BK0 BK174 HK HB; have HO_21 := n0_; have HO_1000 := n1_; have BK0 := n2_; have BK174 := n3_; have HK := n4_; have HB := n5_; clear n0_ n1_ n2_ n3_ n4_ n5_; have hcz34_0 : w33.cell? ⟨gb174, 0, none⟩ = some (.int .i64 ((rd_T55 t170 x23_2).f0)) := bc5_ BK174 0; have hcz34_1 : w33.cell? ⟨gb174, 1, none⟩ = some (.int .i32 ((rd_T55 t170 x23_2).f1.f0)) := bc5_ BK174 1; have hcz34_2 : w33.cell? ⟨gb174, 2, none⟩ = some (.int .i64 ((rd_T55 t170 x23_2).f1.f1.f0)) := bc5_ BK174 2; have hcz34_3 : w33.cell? ⟨gb174, 3, none⟩ = some (.int .i64 ((rd_T55 t170 x23_2).f1.f1.f1)) := bc5_ BK174 3; have hcz34_4 : w33.cell? ⟨gb174, 4, none⟩ = some (.int .i64 ((rd_T55 t170 x23_2).f1.f1.f2)) := bc5_ BK174 4; have hfz34_0 := blk_frozen BK174.out 0; have hfz34_1 := blk_frozen BK174.out 1; have hfz34_2 := blk_frozen BK174.out 2; have hfz34_3 := blk_frozen BK174.out 3; have hfz34_4 := blk_frozen BK174.out 4; obtain ⟨Ao35, co35, eo35⟩ := Kd.R_slice HO_1000.out; subst eo35) | ((with_reducible refine gate_callee (f := 67) rfl ?_); refine goesL_ (some 30) rfl rfl Try.func67 (by kernel_rfl) rfl #[.pointer (some ⟨g, 0, none⟩), .int .i64 ((rd_T55 t170 x23_2).f0)] rfl q5_7 ?_; (with_reducible refine (codec_Writer_Number.calls k2 g (fun k_ => some k_ = (.slice Ao35 x1000_2.length co35 : Value).ownBlock) (.slice Ao35 x1000_2.length co35) x1000_2 x1001_2 ((rd_T55 t170 x23_2).f0) t175 t178 w0 _ ?side2 ?side3 ?side1 ?side4 A25.out).mono ?_); (case side1 => repeat (first | (with_reducible first | exact HB.out | apply below_alloc | apply pw_below_drewN | apply below_drew1 | refine below_set ?_ GE0.out | refine below_set ?_ GE174.out) | exact HB.out)); (case side2 => (with_reducible repeat (first | refine blk_drewN ?_ _ | refine blk_drew ?_ | refine blk_alloc ?_ _)); exact BK0.out); (case side3 => exact GE0.out); (case side4 => exact Kd.R_tight rfl HO_1000.out); rintro e w36 ⟨v176, rfl, ho0, hbx, hb, hkp⟩; refine ⟨_, rfl, ?_⟩; have n0_ := A5_ (Kd.R_mono (ok' := fun k_ => (P0_0_ k_ ∨ w.heap.size ≤ k_) ∧ k_ ≠ gb174) (Kd.R_keptB ((Kd.R_types (Kd.R_apart' HO_21.out (Kd.R_typed HO_1000.out) q5_22) (show (World.heap _)[g]? = some (.cells #[.slice Ao35 x1000_2.length co35, .int .i64 x1001_2] 101 (0, 0)) from by (with_reducible repeat (first | refine blk_drewN ?_ _ | refine blk_drew ?_ | refine blk_alloc ?_ _)); exact BK0.out) q5_22)) hkp (fun k_ hk_ hs_ => Or.elim hs_ (fun hs_ => (hk_.1.2) hs_) (fun e_ => (hk_.2) e_))) (fun k_ hk_ => ⟨hk_.1.1.1.1, hk_.1.1.1.2⟩)); have n1_ := A5_ (hbx); have n2_ := A5_ (blk_kept q5_17 hkp (fun hs_ => Or.elim hs_ (fun hs_ => (fun e_ => (Kd.R_ne HO_1000.out BK174.out q5_22) e_) hs_) (fun e_ => NB174_0.out e_))); have n3_ := A5_ (Kd.R_mono (ok' := fun k_ => (P0_0_ k_ ∨ w.heap.size ≤ k_)) ho0 (fun k_ hk_ => Or.elim hk_ (fun hs_ => (HO_1000.out.1 k_ (hs_).symm)) (fun hn_ => (.inr (Nat.le_trans q5_8 hn_))))); have n4_ := A5_ (Kept.then_ (S := (fun k_ => (P0_0_ k_) ∨ k_ = g)) q5_9 hkp (fun k_ hs_ => Or.elim hs_ (fun hs_ => (fun e_ => Or.imp_left Or.inl ((HO_1000.out.1 k_ e_.symm))) hs_) (fun e_ => .inl (.inr e_)))); have n5_ := A5_ (hb); clear HO_21 BK0 BK174 HK HB HO_1000; have HO_21 := n0_; have BK0 := n1_; have BK174 := n2_; have HO177 := n3_; have HK := n4_; have HB := n5_; clear n0_ n1_ n2_ n3_ n4_ n5_; (try clear hbx); (try clear hbn); (try clear hgn); (try clear hb); (try clear hkp); (try clear ho0); have hcz37_0 : w36.cell? ⟨gb174, 0, none⟩ = some (.int .i64 ((rd_T55 t170 x23_2).f0)) := bc5_ BK174 0; have hcz37_1 : w36.cell? ⟨gb174, 1, none⟩ = some (.int .i32 ((rd_T55 t170 x23_2).f1.f0)) := bc5_ BK174 1; have hcz37_2 : w36.cell? ⟨gb174, 2, none⟩ = some (.int .i64 ((rd_T55 t170 x23_2).f1.f1.f0)) := bc5_ BK174 2; have hcz37_3 : w36.cell? ⟨gb174, 3, none⟩ = some (.int .i64 ((rd_T55 t170 x23_2).f1.f1.f1)) := bc5_ BK174 3; have hcz37_4 : w36.cell? ⟨gb174, 4, none⟩ = some (.int .i64 ((rd_T55 t170 x23_2).f1.f1.f2)) := bc5_ BK174 4; have hfz37_0 := blk_frozen BK174.out 0; have hfz37_1 := blk_frozen BK174.out 1; have hfz37_2 := blk_frozen BK174.out 2; have hfz37_3 := blk_frozen BK174.out 3; have hfz37_4 := blk_frozen BK174.out 4; obtain ⟨Ao38, co38, eo38⟩ := Kd.R_slice HO177.out; subst eo38) | ((with_reducible refine gate_callee (f := 67) rfl ?_); refine goesL_ (some 36) rfl rfl Try.func67 (by kernel_rfl) rfl #[.pointer (some ⟨g, 0, none⟩), .int .i64 (wrap64 ((rd_T55 t170 x23_2).f1.f0))] rfl q5_7 ?_; (with_reducible refine (codec_Writer_Number.calls k2 g (fun k_ => some k_ = (.slice Ao38 t175.length co38 : Value).ownBlock) (.slice Ao38 t175.length co38) t175 t178 (wrap64 ((rd_T55 t170 x23_2).f1.f0)) t179 t182 w0 _ ?side2 ?side3 ?side1 ?side4 A26.out).mono ?_); (case side1 => repeat (first | (with_reducible first | exact HB.out | apply below_alloc | apply pw_below_drewN | apply below_drew1 | refine below_set ?_ GE0.out | refine below_set ?_ GE174.out) | exact HB.out)); (case side2 => (with_reducible repeat (first | refine blk_drewN ?_ _ | refine blk_drew ?_ | refine blk_alloc ?_ _)); exact BK0.out); (case side3 => exact GE0.out); (case side4 => exact Kd.R_tight rfl HO177.out); rintro e w39 ⟨v180, rfl, ho0, hbx, hb, hkp⟩; refine ⟨_, rfl, ?_⟩; have n0_ := A5_ (Kd.R_mono (ok' := fun k_ => (P0_0_ k_ ∨ w.heap.size ≤ k_) ∧ k_ ≠ gb174) (Kd.R_keptB ((Kd.R_types (Kd.R_apart' HO_21.out (Kd.R_typed HO177.out) q5_22) (show (World.heap _)[g]? = some (.cells #[.slice Ao38 t175.length co38, .int .i64 t178] 101 (0, 0)) from by (with_reducible repeat (first | refine blk_drewN ?_ _ | refine blk_drew ?_ | refine blk_alloc ?_ _)); exact BK0.out) q5_22)) hkp (fun k_ hk_ hs_ => Or.elim hs_ (fun hs_ => (hk_.1.2) hs_) (fun e_ => (hk_.2) e_))) (fun k_ hk_ => ⟨hk_.1.1.1.1, hk_.1.1.1.2⟩)); have n1_ := A5_ (hbx); have n2_ := A5_ (blk_kept q5_17 hkp (fun hs_ => Or.elim hs_ (fun hs_ => (fun e_ => (Kd.R_ne HO177.out BK174.out q5_22) e_) hs_) (fun e_ => NB174_0.out e_))); have n3_ := A5_ (Kd.R_mono (ok' := fun k_ => (P0_0_ k_ ∨ w.heap.size ≤ k_)) ho0 (fun k_ hk_ => Or.elim hk_ (fun hs_ => (HO177.out.1 k_ (hs_).symm)) (fun hn_ => (.inr (Nat.le_trans q5_8 hn_))))); have n4_ := A5_ (Kept.then_ (S := (fun k_ => (P0_0_ k_) ∨ k_ = g)) q5_9 hkp (fun k_ hs_ => Or.elim hs_ (fun hs_ => (fun e_ => Or.imp_left Or.inl ((HO177.out.1 k_ e_.symm))) hs_) (fun e_ => .inl (.inr e_)))); have n5_ := A5_ (hb); clear HO_21 BK0 BK174 HK HB HO177; have HO_21 := n0_; have BK0 := n1_; have BK174 := n2_; have HO181 := n3_; have HK := n4_; have HB := n5_; clear n0_ n1_ n2_ n3_ n4_ n5_; (try clear hbx); (try clear hbn); (try clear hgn); (try clear hb); (try clear hkp); (try clear ho0); have hcz40_0 : w39.cell? ⟨gb174, 0, none⟩ = some (.int .i64 ((rd_T55 t170 x23_2).f0)) := bc5_ BK174 0; have hcz40_1 : w39.cell? ⟨gb174, 1, none⟩ = some (.int .i32 ((rd_T55 t170 x23_2).f1.f0)) := bc5_ BK174 1; have hcz40_2 : w39.cell? ⟨gb174, 2, none⟩ = some (.int .i64 ((rd_T55 t170 x23_2).f1.f1.f0)) := bc5_ BK174 2; have hcz40_3 : w39.cell? ⟨gb174, 3, none⟩ = some (.int .i64 ((rd_T55 t170 x23_2).f1.f1.f1)) := bc5_ BK174 3; have hcz40_4 : w39.cell? ⟨gb174, 4, none⟩ = some (.int .i64 ((rd_T55 t170 x23_2).f1.f1.f2)) := bc5_ BK174 4; have hfz40_0 := blk_frozen BK174.out 0; have hfz40_1 := blk_frozen BK174.out 1; have hfz40_2 := blk_frozen BK174.out 2; have hfz40_3 := blk_frozen BK174.out 3; have hfz40_4 := blk_frozen BK174.out 4; obtain ⟨Ao41, co41, eo41⟩ := Kd.R_slice HO181.out; subst eo41) | ((with_reducible refine gate_callee (f := 67) rfl ?_); refine goesL_ (some 42) rfl rfl Try.func67 (by kernel_rfl) rfl #[.pointer (some ⟨g, 0, none⟩), .int .i64 ((rd_T55 t170 x23_2).f1.f1.f0)] rfl q5_7 ?_; (with_reducible refine (codec_Writer_Number.calls k2 g (fun k_ => some k_ = (.slice Ao41 t179.length co41 : Value).ownBlock) (.slice Ao41 t179.length co41) t179 t182 ((rd_T55 t170 x23_2).f1.f1.f0) t183 t186 w0 _ ?side2 ?side3 ?side1 ?side4 A27.out).mono ?_); (case side1 => repeat (first | (with_reducible first | exact HB.out | apply below_alloc | apply pw_below_drewN | apply below_drew1 | refine below_set ?_ GE0.out | refine below_set ?_ GE174.out) | exact HB.out)); (case side2 => (with_reducible repeat (first | refine blk_drewN ?_ _ | refine blk_drew ?_ | refine blk_alloc ?_ _)); exact BK0.out); (case side3 => exact GE0.out); (case side4 => exact Kd.R_tight rfl HO181.out); rintro e w42 ⟨v184, rfl, ho0, hbx, hb, hkp⟩; refine ⟨_, rfl, ?_⟩; have n0_ := A5_ (Kd.R_mono (ok' := fun k_ => (P0_0_ k_ ∨ w.heap.size ≤ k_) ∧ k_ ≠ gb174) (Kd.R_keptB ((Kd.R_types (Kd.R_apart' HO_21.out (Kd.R_typed HO181.out) q5_22) (show (World.heap _)[g]? = some (.cells #[.slice Ao41 t179.length co41, .int .i64 t182] 101 (0, 0)) from by (with_reducible repeat (first | refine blk_drewN ?_ _ | refine blk_drew ?_ | refine blk_alloc ?_ _)); exact BK0.out) q5_22)) hkp (fun k_ hk_ hs_ => Or.elim hs_ (fun hs_ => (hk_.1.2) hs_) (fun e_ => (hk_.2) e_))) (fun k_ hk_ => ⟨hk_.1.1.1.1, hk_.1.1.1.2⟩)); have n1_ := A5_ (hbx); have n2_ := A5_ (blk_kept q5_17 hkp (fun hs_ => Or.elim hs_ (fun hs_ => (fun e_ => (Kd.R_ne HO181.out BK174.out q5_22) e_) hs_) (fun e_ => NB174_0.out e_))); have n3_ := A5_ (Kd.R_mono (ok' := fun k_ => (P0_0_ k_ ∨ w.heap.size ≤ k_)) ho0 (fun k_ hk_ => Or.elim hk_ (fun hs_ => (HO181.out.1 k_ (hs_).symm)) (fun hn_ => (.inr (Nat.le_trans q5_8 hn_))))); have n4_ := A5_ (Kept.then_ (S := (fun k_ => (P0_0_ k_) ∨ k_ = g)) q5_9 hkp (fun k_ hs_ => Or.elim hs_ (fun hs_ => (fun e_ => Or.imp_left Or.inl ((HO181.out.1 k_ e_.symm))) hs_) (fun e_ => .inl (.inr e_)))); have n5_ := A5_ (hb); clear HO_21 BK0 BK174 HK HB HO181; have HO_21 := n0_; have BK0 := n1_; have BK174 := n2_; have HO185 := n3_; have HK := n4_; have HB := n5_; clear n0_ n1_ n2_ n3_ n4_ n5_; (try clear hbx); (try clear hbn); (try clear hgn); (try clear hb); (try clear hkp); (try clear ho0); have hcz43_0 : w42.cell? ⟨gb174, 0, none⟩ = some (.int .i64 ((rd_T55 t170 x23_2).f0)) := bc5_ BK174 0; have hcz43_1 : w42.cell? ⟨gb174, 1, none⟩ = some (.int .i32 ((rd_T55 t170 x23_2).f1.f0)) := bc5_ BK174 1; have hcz43_2 : w42.cell? ⟨gb174, 2, none⟩ = some (.int .i64 ((rd_T55 t170 x23_2).f1.f1.f0)) := bc5_ BK174 2; have hcz43_3 : w42.cell? ⟨gb174, 3, none⟩ = some (.int .i64 ((rd_T55 t170 x23_2).f1.f1.f1)) := bc5_ BK174 3; have hcz43_4 : w42.cell? ⟨gb174, 4, none⟩ = some (.int .i64 ((rd_T55 t170 x23_2).f1.f1.f2)) := bc5_ BK174 4; have hfz43_0 := blk_frozen BK174.out 0; have hfz43_1 := blk_frozen BK174.out 1; have hfz43_2 := blk_frozen BK174.out 2; have hfz43_3 := blk_frozen BK174.out 3; have hfz43_4 := blk_frozen BK174.out 4; obtain ⟨Ao44, co44, eo44⟩ := Kd.R_slice HO185.out; subst eo44) | ((with_reducible refine gate_callee (f := 67) rfl ?_); refine goesL_ (some 48) rfl rfl Try.func67 (by kernel_rfl) rfl #[.pointer (some ⟨g, 0, none⟩), .int .i64 ((rd_T55 t170 x23_2).f1.f1.f1)] rfl q5_7 ?_; (with_reducible refine (codec_Writer_Number.calls k2 g (fun k_ => some k_ = (.slice Ao44 t183.length co44 : Value).ownBlock) (.slice Ao44 t183.length co44) t183 t186 ((rd_T55 t170 x23_2).f1.f1.f1) t187 t190 w0 _ ?side2 ?side3 ?side1 ?side4 A28.out).mono ?_); (case side1 => repeat (first | (with_reducible first | exact HB.out | apply below_alloc | apply pw_below_drewN | apply below_drew1 | refine below_set ?_ GE0.out | refine below_set ?_ GE174.out) | exact HB.out)); (case side2 => (with_reducible repeat (first | refine blk_drewN ?_ _ | refine blk_drew ?_ | refine blk_alloc ?_ _)); exact BK0.out); (case side3 => exact GE0.out); (case side4 => exact Kd.R_tight rfl HO185.out); rintro e w45 ⟨v188, rfl, ho0, hbx, hb, hkp⟩; refine ⟨_, rfl, ?_⟩; have n0_ := A5_ (Kd.R_mono (ok' := fun k_ => (P0_0_ k_ ∨ w.heap.size ≤ k_) ∧ k_ ≠ gb174) (Kd.R_keptB ((Kd.R_types (Kd.R_apart' HO_21.out (Kd.R_typed HO185.out) q5_22) (show (World.heap _)[g]? = some (.cells #[.slice Ao44 t183.length co44, .int .i64 t186] 101 (0, 0)) from by (with_reducible repeat (first | refine blk_drewN ?_ _ | refine blk_drew ?_ | refine blk_alloc ?_ _)); exact BK0.out) q5_22)) hkp (fun k_ hk_ hs_ => Or.elim hs_ (fun hs_ => (hk_.1.2) hs_) (fun e_ => (hk_.2) e_))) (fun k_ hk_ => ⟨hk_.1.1.1.1, hk_.1.1.1.2⟩)); have n1_ := A5_ (hbx); have n2_ := A5_ (blk_kept q5_17 hkp (fun hs_ => Or.elim hs_ (fun hs_ => (fun e_ => (Kd.R_ne HO185.out BK174.out q5_22) e_) hs_) (fun e_ => NB174_0.out e_))); have n3_ := A5_ (Kd.R_mono (ok' := fun k_ => (P0_0_ k_ ∨ w.heap.size ≤ k_)) ho0 (fun k_ hk_ => Or.elim hk_ (fun hs_ => (HO185.out.1 k_ (hs_).symm)) (fun hn_ => (.inr (Nat.le_trans q5_8 hn_))))); have n4_ := A5_ (Kept.then_ (S := (fun k_ => (P0_0_ k_) ∨ k_ = g)) q5_9 hkp (fun k_ hs_ => Or.elim hs_ (fun hs_ => (fun e_ => Or.imp_left Or.inl ((HO185.out.1 k_ e_.symm))) hs_) (fun e_ => .inl (.inr e_)))); have n5_ := A5_ (hb); clear HO_21 BK0 BK174 HK HB HO185; have HO_21 := n0_; have BK0 := n1_; have BK174 := n2_; have HO189 := n3_; have HK := n4_; have HB := n5_; clear n0_ n1_ n2_ n3_ n4_ n5_; (try clear hbx); (try clear hbn); (try clear hgn); (try clear hb); (try clear hkp); (try clear ho0); have hcz46_0 : w45.cell? ⟨gb174, 0, none⟩ = some (.int .i64 ((rd_T55 t170 x23_2).f0)) := bc5_ BK174 0; have hcz46_1 : w45.cell? ⟨gb174, 1, none⟩ = some (.int .i32 ((rd_T55 t170 x23_2).f1.f0)) := bc5_ BK174 1; have hcz46_2 : w45.cell? ⟨gb174, 2, none⟩ = some (.int .i64 ((rd_T55 t170 x23_2).f1.f1.f0)) := bc5_ BK174 2; have hcz46_3 : w45.cell? ⟨gb174, 3, none⟩ = some (.int .i64 ((rd_T55 t170 x23_2).f1.f1.f1)) := bc5_ BK174 3; have hcz46_4 : w45.cell? ⟨gb174, 4, none⟩ = some (.int .i64 ((rd_T55 t170 x23_2).f1.f1.f2)) := bc5_ BK174 4; have hfz46_0 := blk_frozen BK174.out 0; have hfz46_1 := blk_frozen BK174.out 1; have hfz46_2 := blk_frozen BK174.out 2; have hfz46_3 := blk_frozen BK174.out 3; have hfz46_4 := blk_frozen BK174.out 4; obtain ⟨Ao47, co47, eo47⟩ := Kd.R_slice HO189.out; subst eo47) | ((with_reducible refine gate_callee (f := 67) rfl ?_); refine goesL_ (some 54) rfl rfl Try.func67 (by kernel_rfl) rfl #[.pointer (some ⟨g, 0, none⟩), .int .i64 ((rd_T55 t170 x23_2).f1.f1.f2)] rfl q5_7 ?_; (with_reducible refine (codec_Writer_Number.calls k2 g (fun k_ => some k_ = (.slice Ao47 t187.length co47 : Value).ownBlock) (.slice Ao47 t187.length co47) t187 t190 ((rd_T55 t170 x23_2).f1.f1.f2) t191 t194 w0 _ ?side2 ?side3 ?side1 ?side4 A29.out).mono ?_); (case side1 => repeat (first | (with_reducible first | exact HB.out | apply below_alloc | apply pw_below_drewN | apply below_drew1 | refine below_set ?_ GE0.out | refine below_set ?_ GE174.out) | exact HB.out)); (case side2 => (with_reducible repeat (first | refine blk_drewN ?_ _ | refine blk_drew ?_ | refine blk_alloc ?_ _)); exact BK0.out); (case side3 => exact GE0.out); (case side4 => exact Kd.R_tight rfl HO189.out); rintro e w48 ⟨v192, rfl, ho0, hbx, hb, hkp⟩; refine ⟨_, rfl, ?_⟩; have n0_ := A5_ (Kd.R_mono (ok' := fun k_ => (P0_0_ k_ ∨ w.heap.size ≤ k_) ∧ k_ ≠ gb174) (Kd.R_keptB ((Kd.R_types (Kd.R_apart' HO_21.out (Kd.R_typed HO189.out) q5_22) (show (World.heap _)[g]? = some (.cells #[.slice Ao47 t187.length co47, .int .i64 t190] 101 (0, 0)) from by (with_reducible repeat (first | refine blk_drewN ?_ _ | refine blk_drew ?_ | refine blk_alloc ?_ _)); exact BK0.out) q5_22)) hkp (fun k_ hk_ hs_ => Or.elim hs_ (fun hs_ => (hk_.1.2) hs_) (fun e_ => (hk_.2) e_))) (fun k_ hk_ => ⟨hk_.1.1.1.1, hk_.1.1.1.2⟩)); have n1_ := A5_ (hbx); have n2_ := A5_ (blk_kept q5_17 hkp (fun hs_ => Or.elim hs_ (fun hs_ => (fun e_ => (Kd.R_ne HO189.out BK174.out q5_22) e_) hs_) (fun e_ => NB174_0.out e_))); have n3_ := A5_ (Kd.R_mono (ok' := fun k_ => (P0_0_ k_ ∨ w.heap.size ≤ k_)) ho0 (fun k_ hk_ => Or.elim hk_ (fun hs_ => (HO189.out.1 k_ (hs_).symm)) (fun hn_ => (.inr (Nat.le_trans q5_8 hn_))))); have n4_ := A5_ (Kept.then_ (S := (fun k_ => (P0_0_ k_) ∨ k_ = g)) q5_9 hkp (fun k_ hs_ => Or.elim hs_ (fun hs_ => (fun e_ => Or.imp_left Or.inl ((HO189.out.1 k_ e_.symm))) hs_) (fun e_ => .inl (.inr e_)))); have n5_ := A5_ (hb); clear HO_21 BK0 BK174 HK HB HO189; have HO_21 := n0_; have BK0 := n1_; have BK174 := n2_; have HO193 := n3_; have HK := n4_; have HB := n5_; clear n0_ n1_ n2_ n3_ n4_ n5_; (try clear hbx); (try clear hbn); (try clear hgn); (try clear hb); (try clear hkp); (try clear ho0)))
         go_roundg k2
         case measure => have := HK1.out; have := HK2.out; omega
         case rel => exact ⟨(wrap64 (x23_2 + 1)), (t191), (t194), (v192), q5_19, H', ⟨by have := HK1.out; have := HK2.out; omega⟩, ⟨by (with_reducible repeat (first | apply Kd.R_alloc | apply Kd.R_drewN | apply Kd.R_drew)); exact Kd.R_mono HO_21.out (fun _ hk => hk.1)⟩, ⟨by (with_reducible repeat (first | apply Kd.R_alloc | apply Kd.R_drewN | apply Kd.R_drew)); exact HO193.out⟩, ⟨by (with_reducible repeat (first | refine blk_drewN ?_ _ | refine blk_drew ?_ | refine blk_alloc ?_ _)); exact BK0.out⟩, ⟨by repeat (first | (with_reducible first | exact HK.out | apply Kept.alloc | apply Kept.drewN | apply Kept.drew | refine Kept.setCell ?_ (.inl (.inr rfl)) _ | refine Kept.setCell ?_ (.inr GW174.out) _) | exact HK.out)⟩, ⟨by repeat (first | (with_reducible first | exact HB.out | apply below_alloc | apply pw_below_drewN | apply below_drew1 | refine below_set ?_ GE0.out | refine below_set ?_ GE174.out) | exact HB.out)⟩⟩
        ·rw [if_neg c24] at H
         exact absurd H (by simp)
       ·rw [if_neg c23] at H
        exact absurd H (by simp)
      ·rw [if_neg c22] at H
       have c22b0 : decide (x23_2 < (t170.length : Int)) = false := decide_eq_false c22
       clear c22
       simp only [Option.some.injEq, Prod.mk.injEq] at H
       obtain ⟨rfl, rfl⟩ := H
       go_wp2
       first | ((try simp only [Exit.inBlock, Exit.then]); refine bodyPost_ret (results_none rfl _ _ _) rfl ?_) | go_end0
       exact ⟨(u1000), by first | rfl | (simp [errW_none, errW_some, ptrW_true, ptrW_false] <;> rfl) | (simp [*, errW_none, errW_some, ptrW_true, ptrW_false] <;> rfl), by (with_reducible repeat (first | apply Kd.R_alloc | apply Kd.R_drewN | apply Kd.R_drew)); exact HO_1000.out, q5_4, by repeat (first | (with_reducible first | exact HB.out | apply below_alloc | apply pw_below_drewN | apply below_drew1 | refine below_set ?_ GE0.out) | exact HB.out), by repeat (first | (with_reducible first | exact HK.out | apply Kept.alloc | apply Kept.drewN | apply Kept.drew | refine Kept.setCell ?_ (.inl (.inr rfl)) _) | exact HK.out)⟩

/-! ### codec_Writer_Bytes: function 40 -/
def codec_Writer_Bytes.f (l0_0 : List Int) (a0_1 : Int) : Option (List Int × Int × List Int × Int) := if a0_1 = 0 then ((some (([] : List Int) : List Int)).bind fun y195 => (if y195.length + l0_0.length < 140737488355328 then (some ((y195 ++ l0_0), 0, l0_0, a0_1)) else (none))) else (some (([] : List Int), a0_1, l0_0, a0_1))
set_option maxHeartbeats 8000000 in
set_option maxRecDepth 100000 in
theorem codec_Writer_Bytes.calls (g : Nat) (P0_0_ : Nat → Prop) (u9000_ : Value) (l0_0 : List Int) (a0_1 : Int) (r1 : List Int) (r2 : Int) (r3 : List Int) (r4 : Int) (w0 w : World) (hb : w.heap[g]? = some (.cells #[u9000_, .int .i64 a0_1] 101 (0, 0))) (hg : w0.heap.size ≤ g) (hB : Below w0.heap.size w0 w) (ho0_0 : Kd.R (Kd.int .u8) 5 w w0.heap.size P0_0_ u9000_ l0_0) (h : codec_Writer_Bytes.f l0_0 a0_1 = some (r1, r2, r3, r4)) :
  Calls Try.prog 40 #[.pointer (some ⟨g, 0, none⟩)] w fun e w' => ∃ v0_ v2_ : Value, Aside0 (e = .returned (.tuple #[v0_, .int .i64 r2]) ∧ Kd.R (Kd.int .u8) 5 w' w0.heap.size (fun k_ => (P0_0_ k_ ∨ w.heap.size ≤ k_) ∧ some k_ ≠ (v2_ : Value).ownBlock) v0_ r1 ∧ Kd.R (Kd.int .u8) 5 w' w0.heap.size (fun k_ => (P0_0_ k_ ∨ w.heap.size ≤ k_) ∧ some k_ ≠ (v0_ : Value).ownBlock) v2_ r3 ∧ w'.heap[g]? = some (.cells #[v2_, .int .i64 r4] 101 (0, 0)) ∧ Below w0.heap.size w0 w' ∧ Kept w w' (fun k_ => (P0_0_ k_) ∨ k_ = g)) := by
 have HO0_0 := A5_ (show Kd.R (Kd.int .u8) 5 w w0.heap.size (fun k_ => (P0_0_ k_ ∨ w.heap.size ≤ k_)) u9000_ l0_0 from Kd.R_mono ho0_0 (fun k_ hk => (.inl hk)))
 have HK := A5_ (Kept.refl w (fun k_ => (P0_0_ k_) ∨ k_ = g))
 have BK0 := A5_ hb
 have GE0 := A5_ hg
 clear hb hg
 have HW0 := A5_ hB.size
 have HB := A5_ hB
 clear hB
 have H : (if a0_1 = 0 then ((some (([] : List Int) : List Int)).bind fun y195 => (if y195.length + l0_0.length < 140737488355328 then (some ((y195 ++ l0_0), 0, l0_0, a0_1)) else (none))) else (some (([] : List Int), a0_1, l0_0, a0_1))) = some (r1, r2, r3, r4) := h
 clear h
 by_cases c2 : a0_1 = 0
 ·rw [if_pos c2] at H
  have c2b0 : (a0_1 == 0) = true := beq_iff_eq.mpr c2
  have c2b1 : (a0_1 != 0) = false := bne_eq_false_iff_eq.mpr c2
  clear c2
  obtain ⟨y195, hy195⟩ : ∃ y_ : List Int, y_ = (([] : List Int)) := ⟨_, rfl⟩
  replace H : (if y195.length + l0_0.length < 140737488355328 then (some ((y195 ++ l0_0), 0, l0_0, a0_1)) else (none)) = some (r1, r2, r3, r4) := by first | (rw [hy195]; with_reducible exact H) | (have H2_ := (Option.bind_some _ _).symm.trans H; rw [hy195]; with_reducible exact H2_) | (have H2_ := (Option.bind_some _ _).symm.trans H; with_reducible exact H2_) | with_reducible exact H | (rw [hy195]; exact H) | exact H
  have Ny195 := A5_ hy195
  clear hy195
  by_cases c3 : y195.length + l0_0.length < 140737488355328
  ·rw [if_pos c3] at H
   have LMc3 := A5_ c3
   clear c3
   obtain ⟨y198, hy198⟩ : ∃ y_ : List Int, y_ = (y195 ++ l0_0) := ⟨_, rfl⟩
   replace H : (some (y198, 0, l0_0, a0_1)) = some (r1, r2, r3, r4) := by first | (rw [hy198]; with_reducible exact H) | (have H2_ := (Option.bind_some _ _).symm.trans H; rw [hy198]; with_reducible exact H2_) | (have H2_ := (Option.bind_some _ _).symm.trans H; with_reducible exact H2_) | with_reducible exact H | (rw [hy198]; exact H) | exact H
   have Ny198 := A5_ hy198
   clear hy198
   simp only [Option.some.injEq, Prod.mk.injEq] at H
   obtain ⟨rfl, rfl, rfl, rfl⟩ := H
   have hcz4_0 : w.cell? ⟨g, 0, none⟩ = some (u9000_) := bc5_ BK0 0
   have hcz4_1 : w.cell? ⟨g, 1, none⟩ = some (.int .i64 a0_1) := bc5_ BK0 1
   have hfz4_0 := blk_frozen BK0.out 0
   have hfz4_1 := blk_frozen BK0.out 1
   go_enter Try.func40, Try.ntmps40
   go_wp2_with (first | (first | ((with_reducible refine gate_dst (N := 13) rfl ?_); refine Kd.R_lit (Kd.int .u8) _ 5 ?hg (N := 13) ?hd (xs := ([] : List Int)) (inner := []) (ok := fun _ => True) (okp := fun _ => True) ?hr ?hp (fun _ hk => hk) trivial (Below.refl _ _) (Nat.le_refl _) (by simp) ?_; (case hd => rfl); (case hg => rfl); (case hr => first | (go_simp; done) | (go_simp; rfl)); (case hp => exact (Reps.none _ _)); intro v196 w5 ho6 hb hg_ hnew_; clear hg_ hnew_; (first | rw [← Ny195.out] at ho6 | (simp only [Int.reduceToNat] at ho6; rw [← Ny195.out] at ho6)); have n0_ := A5_ (Kd.R_elder' q5_13 (Kd.R_base ho6) hb); have n1_ := A5_ (Kd.R_lower (Kd.R_new' (Kd.R_newM (M := fun k_ => (P0_0_ k_ ∨ w.heap.size ≤ k_)) ho6 q5_3 (fun k_ h_ => .inr h_)) (Kd.R_lt q5_13)) (below_size q5_5)); have n2_ := A5_ (blk_below (g := g) (o := .cells #[u9000_, .int .i64 a0_1] 101 (0, 0)) q5_4 hb); have n3_ := A5_ (Kept.below (S := (fun k_ => (P0_0_ k_) ∨ k_ = g)) q5_6 hb); have n4_ := A5_ (below_step q5_5 hb); clear HO0_0 BK0 HK HB; have HO0_0 := n0_; have HO197 := n1_; have BK0 := n2_; have HK := n3_; have HB := n4_; clear n0_ n1_ n2_ n3_ n4_; clear hb ho6; have hcz7_0 : w5.cell? ⟨g, 0, none⟩ = some (u9000_) := bc5_ BK0 0; have hcz7_1 : w5.cell? ⟨g, 1, none⟩ = some (.int .i64 a0_1) := bc5_ BK0 1; have hfz7_0 := blk_frozen BK0.out 0; have hfz7_1 := blk_frozen BK0.out 1; obtain ⟨Ao9, co9, eo9⟩ := Kd.R_slice HO0_0.out; subst eo9) | ((with_reducible refine gate_builtin (b := .append) (xs := #[.tmp 13, .tmp 17]) rfl ?_); at_builtin; refine Kd.R_append_rows (Kd.int .u8) (w0 := w0) w0.heap.size rfl (.tmp 13) (.tmp 17) 22 5 (.int .u8 0) 1 rfl Try.underlying22 info5 rfl q5_22 (by omega) v196 y195 l0_0 _ _ _ (fun k_ => (P0_0_ k_ ∨ w.heap.size ≤ k_) ∧ some k_ ≠ (.slice Ao9 l0_0.length co9 : Value).ownBlock) (fun _ => False) rfl rfl ?aO ?aR (fun _ _ h => h) (fun _ h => h.elim) ?aF ?aB ?aS ?aL ?_; (case aR => repeat (first | exact (Kd.R_reads' HO0_0.out).2.2 | (with_reducible refine Kd.C_alloc ?_ _) | (with_reducible refine Kd.C_drewN ?_ _) | (with_reducible refine Kd.C_drew ?_))); (case aB => exact q5_5); (case aF => exact (fun k_ hk => ⟨(.inr (Nat.le_trans q5_3 hk)), Kd.fresh' (Kd.R_lt q5_13) k_ hk⟩)); (case aO => exact (by (with_reducible repeat (first | apply Kd.R_alloc | apply Kd.R_drewN | apply Kd.R_drew)); exact Kd.R_mono HO197.out (fun _ hk => ⟨hk.1.1, hk.2⟩))); (case aS => exact (below_size q5_5)); (case aL => have := LMc3.out; omega); intro v199 w8 ho hb hg hat; rw [← Ny198.out] at ho; have n0_ := A5_ (blk_grown (g := g) (o := .cells #[.slice Ao9 l0_0.length co9, .int .i64 a0_1] 101 (0, 0)) q5_4 hg (Kd.R_ne HO197.out BK0.out q5_22)); have n1_ := A5_ (Kd.R_after (ok := (fun k_ => (P0_0_ k_ ∨ w.heap.size ≤ k_))) q5_13 hg hat); have n2_ := A5_ (hb); have n3_ := A5_ (Kept.of_grown (S := (fun k_ => (P0_0_ k_) ∨ k_ = g)) hg q5_6 (fun k_ e_ => Or.imp_left Or.inl ((HO197.out.1 k_ e_).1.1))); have n4_ := A5_ (ho); clear BK0 HO0_0 HB HK HO197; have BK0 := n0_; have HO0_0 := n1_; have HB := n2_; have HK := n3_; have HO200 := n4_; clear n0_ n1_ n2_ n3_ n4_; clear ho hb hg hat)) | go_quiet (first | ((with_reducible refine gate_dst (N := 13) rfl ?_); refine Kd.R_lit (Kd.int .u8) _ 5 ?hg (N := 13) ?hd (xs := ([] : List Int)) (inner := []) (ok := fun _ => True) (okp := fun _ => True) ?hr ?hp (fun _ hk => hk) trivial (Below.refl _ _) (Nat.le_refl _) (by simp) ?_; (case hd => rfl); (case hg => rfl); (case hr => first | (go_simp; done) | (go_simp; rfl)); (case hp => exact (Reps.none _ _)); intro v196 w5 ho6 hb hg_ hnew_; clear hg_ hnew_; (first | rw [← Ny195.out] at ho6 | (simp only [Int.reduceToNat] at ho6; rw [← Ny195.out] at ho6)); have n0_ := A5_ (Kd.R_elder' q5_13 (Kd.R_base ho6) hb); have n1_ := A5_ (Kd.R_lower (Kd.R_new' (Kd.R_newM (M := fun k_ => (P0_0_ k_ ∨ w.heap.size ≤ k_)) ho6 q5_3 (fun k_ h_ => .inr h_)) (Kd.R_lt q5_13)) (below_size q5_5)); have n2_ := A5_ (blk_below (g := g) (o := .cells #[u9000_, .int .i64 a0_1] 101 (0, 0)) q5_4 hb); have n3_ := A5_ (Kept.below (S := (fun k_ => (P0_0_ k_) ∨ k_ = g)) q5_6 hb); have n4_ := A5_ (below_step q5_5 hb); clear HO0_0 BK0 HK HB; have HO0_0 := n0_; have HO197 := n1_; have BK0 := n2_; have HK := n3_; have HB := n4_; clear n0_ n1_ n2_ n3_ n4_; clear hb ho6; have hcz7_0 : w5.cell? ⟨g, 0, none⟩ = some (u9000_) := bc5_ BK0 0; have hcz7_1 : w5.cell? ⟨g, 1, none⟩ = some (.int .i64 a0_1) := bc5_ BK0 1; have hfz7_0 := blk_frozen BK0.out 0; have hfz7_1 := blk_frozen BK0.out 1; obtain ⟨Ao9, co9, eo9⟩ := Kd.R_slice HO0_0.out; subst eo9) | ((with_reducible refine gate_builtin (b := .append) (xs := #[.tmp 13, .tmp 17]) rfl ?_); at_builtin; refine Kd.R_append_rows (Kd.int .u8) (w0 := w0) w0.heap.size rfl (.tmp 13) (.tmp 17) 22 5 (.int .u8 0) 1 rfl Try.underlying22 info5 rfl q5_22 (by omega) v196 y195 l0_0 _ _ _ (fun k_ => (P0_0_ k_ ∨ w.heap.size ≤ k_) ∧ some k_ ≠ (.slice Ao9 l0_0.length co9 : Value).ownBlock) (fun _ => False) rfl rfl ?aO ?aR (fun _ _ h => h) (fun _ h => h.elim) ?aF ?aB ?aS ?aL ?_; (case aR => repeat (first | exact (Kd.R_reads' HO0_0.out).2.2 | (with_reducible refine Kd.C_alloc ?_ _) | (with_reducible refine Kd.C_drewN ?_ _) | (with_reducible refine Kd.C_drew ?_))); (case aB => exact q5_5); (case aF => exact (fun k_ hk => ⟨(.inr (Nat.le_trans q5_3 hk)), Kd.fresh' (Kd.R_lt q5_13) k_ hk⟩)); (case aO => exact (by (with_reducible repeat (first | apply Kd.R_alloc | apply Kd.R_drewN | apply Kd.R_drew)); exact Kd.R_mono HO197.out (fun _ hk => ⟨hk.1.1, hk.2⟩))); (case aS => exact (below_size q5_5)); (case aL => have := LMc3.out; omega); intro v199 w8 ho hb hg hat; rw [← Ny198.out] at ho; have n0_ := A5_ (blk_grown (g := g) (o := .cells #[.slice Ao9 l0_0.length co9, .int .i64 a0_1] 101 (0, 0)) q5_4 hg (Kd.R_ne HO197.out BK0.out q5_22)); have n1_ := A5_ (Kd.R_after (ok := (fun k_ => (P0_0_ k_ ∨ w.heap.size ≤ k_))) q5_13 hg hat); have n2_ := A5_ (hb); have n3_ := A5_ (Kept.of_grown (S := (fun k_ => (P0_0_ k_) ∨ k_ = g)) hg q5_6 (fun k_ e_ => Or.imp_left Or.inl ((HO197.out.1 k_ e_).1.1))); have n4_ := A5_ (ho); clear BK0 HO0_0 HB HK HO197; have BK0 := n0_; have HO0_0 := n1_; have HB := n2_; have HK := n3_; have HO200 := n4_; clear n0_ n1_ n2_ n3_ n4_; clear ho hb hg hat)))
   go_ret2
   exact ⟨_, (.slice Ao9 l0_0.length co9), by first | rfl | (simp [errW_none, errW_some, ptrW_true, ptrW_false] <;> rfl) | (simp [*, errW_none, errW_some, ptrW_true, ptrW_false] <;> rfl), by (with_reducible repeat (first | apply Kd.R_alloc | apply Kd.R_drewN | apply Kd.R_drew)); exact HO200.out, by (with_reducible repeat (first | apply Kd.R_alloc | apply Kd.R_drewN | apply Kd.R_drew)); exact HO0_0.out, q5_4, by repeat (first | (with_reducible first | exact HB.out | apply below_alloc | apply pw_below_drewN | apply below_drew1 | refine below_set ?_ GE0.out) | exact HB.out), by repeat (first | (with_reducible first | exact HK.out | apply Kept.alloc | apply Kept.drewN | apply Kept.drew | refine Kept.setCell ?_ (.inl (.inr rfl)) _) | exact HK.out)⟩
  ·rw [if_neg c3] at H
   exact absurd H (by simp)
 ·rw [if_neg c2] at H
  have c2b0 : (a0_1 == 0) = false := beq_eq_false_iff_ne.mpr c2
  have c2b1 : (a0_1 != 0) = true := bne_iff_ne.mpr c2
  simp only [Option.some.injEq, Prod.mk.injEq] at H
  obtain ⟨rfl, rfl, rfl, rfl⟩ := H
  have hcz10_0 : w.cell? ⟨g, 0, none⟩ = some (u9000_) := bc5_ BK0 0
  have hcz10_1 : w.cell? ⟨g, 1, none⟩ = some (.int .i64 a0_1) := bc5_ BK0 1
  have hfz10_0 := blk_frozen BK0.out 0
  have hfz10_1 := blk_frozen BK0.out 1
  go_enter Try.func40, Try.ntmps40
  go_wp2
  repeat (go_quiet (fail); try go_wp2)
  go_ret2
  exact ⟨_, (u9000_), by first | rfl | (simp [errW_none, errW_some, ptrW_true, ptrW_false] <;> rfl) | (simp [*, errW_none, errW_some, ptrW_true, ptrW_false] <;> rfl), by first | exact Kd.R_nil _ _ _ _ _ | exact Kd.N_nil _ _ _ _ _ | exact Kd.V_nil _ _ _ _ _ | exact Kd.Q_nil _ _ _ _ _ | exact Kd.S_nil _ _ _ _ _, by (with_reducible repeat (first | apply Kd.R_alloc | apply Kd.R_drewN | apply Kd.R_drew)); exact Kd.R_mono HO0_0.out (fun _ hk => ⟨hk, (by simp [Value.ownBlock])⟩), q5_4, by repeat (first | (with_reducible first | exact HB.out | apply below_alloc | apply pw_below_drewN | apply below_drew1 | refine below_set ?_ GE0.out) | exact HB.out), by repeat (first | (with_reducible first | exact HK.out | apply Kept.alloc | apply Kept.drewN | apply Kept.drew | refine Kept.setCell ?_ (.inl (.inr rfl)) _) | exact HK.out)⟩

/-! ### codec_NewReader: function 41 -/
def codec_NewReader.f (l0 : List Int) : Option (List Int × Int) := (some (([] : List Int) : List Int)).bind fun y201 => (if y201.length + l0.length < 140737488355328 then (some ((y201 ++ l0), 0)) else (none))
set_option maxHeartbeats 8000000 in
set_option maxRecDepth 100000 in
theorem codec_NewReader.calls (A0 : Option Addr) (c0 : Nat) (l0 : List Int) (r1 : List Int) (r2 : Int) (w : World) (hr0 : Kd.C (Kd.int .u8) w A0 l0.length l0) (hc0 : l0.length ≤ c0) (h : codec_NewReader.f l0 = some (r1, r2)) :
  Calls Try.prog 41 #[.slice A0 l0.length c0] w fun e w' => ∃ v0_ : Value, ∃ g_ : Nat, Aside0 (e = .returned (.pointer (some ⟨g_, 0, none⟩)) ∧ Kd.R (Kd.int .u8) 5 w' w.heap.size (fun _ => True) v0_ r1 ∧ w'.heap[g_]? = some (.cells #[v0_, .int .i64 r2] 104 (0, 0)) ∧ w.heap.size ≤ g_ ∧ Below w.heap.size w w') := by
 have hu104 := Try.underlying104
 have HR0 := A5_ hr0
 have HC0 := A5_ hc0
 clear hr0 hc0
 have HB := A5_ (Below.refl w.heap.size w)
 have H : ((some (([] : List Int) : List Int)).bind fun y201 => (if y201.length + l0.length < 140737488355328 then (some ((y201 ++ l0), 0)) else (none))) = some (r1, r2) := h
 clear h
 obtain ⟨y201, hy201⟩ : ∃ y_ : List Int, y_ = (([] : List Int)) := ⟨_, rfl⟩
 replace H : (if y201.length + l0.length < 140737488355328 then (some ((y201 ++ l0), 0)) else (none)) = some (r1, r2) := by first | (rw [hy201]; with_reducible exact H) | (have H2_ := (Option.bind_some _ _).symm.trans H; rw [hy201]; with_reducible exact H2_) | (have H2_ := (Option.bind_some _ _).symm.trans H; with_reducible exact H2_) | with_reducible exact H | (rw [hy201]; exact H) | exact H
 have Ny201 := A5_ hy201
 clear hy201
 by_cases c2 : y201.length + l0.length < 140737488355328
 ·rw [if_pos c2] at H
  have LMc2 := A5_ c2
  clear c2
  obtain ⟨y204, hy204⟩ : ∃ y_ : List Int, y_ = (y201 ++ l0) := ⟨_, rfl⟩
  replace H : (some (y204, 0)) = some (r1, r2) := by first | (rw [hy204]; with_reducible exact H) | (have H2_ := (Option.bind_some _ _).symm.trans H; rw [hy204]; with_reducible exact H2_) | (have H2_ := (Option.bind_some _ _).symm.trans H; with_reducible exact H2_) | with_reducible exact H | (rw [hy204]; exact H) | exact H
  have Ny204 := A5_ hy204
  clear hy204
  simp only [Option.some.injEq, Prod.mk.injEq] at H
  obtain ⟨rfl, rfl⟩ := H
  go_enter Try.func41, Try.ntmps41
  go_wp2_with (first | ((with_reducible refine gate_dst (N := 3) rfl ?_); refine Kd.R_lit (Kd.int .u8) _ 5 ?hg (N := 3) ?hd (xs := ([] : List Int)) (inner := []) (ok := fun _ => True) (okp := fun _ => True) ?hr ?hp (fun _ hk => hk) trivial (Below.refl _ _) (Nat.le_refl _) (by simp) ?_; (case hd => rfl); (case hg => rfl); (case hr => first | (go_simp; done) | (go_simp; rfl)); (case hp => exact (Reps.none _ _)); intro v202 w3 ho4 hb hg_ hnew_; clear hg_ hnew_; (first | rw [← Ny201.out] at ho4 | (simp only [Int.reduceToNat] at ho4; rw [← Ny201.out] at ho4)); have n0_ := A5_ (Kd.R_lower ho4 (below_size q5_11)); have n1_ := A5_ (below_step q5_11 hb); clear HB; have HO203 := n0_; have HB := n1_; clear n0_ n1_; clear hb ho4) | ((with_reducible refine gate_builtin (b := .append) (xs := #[.tmp 3, .tmp 4]) rfl ?_); at_builtin; refine Kd.R_append_rows (Kd.int .u8) (w0 := w) w.heap.size rfl (.tmp 3) (.tmp 4) 22 5 (.int .u8 0) 1 rfl Try.underlying22 info5 rfl q5_22 (by omega) v202 y201 l0 _ _ _ (fun _ => True) (fun _ => False) rfl rfl ?aO ?aR (fun _ _ h => h) (fun _ h => h.elim) ?aF ?aB ?aS ?aL ?_; (case aR => repeat (first | exact (Kd.C_below HR0.out HB.out) | (with_reducible refine Kd.C_alloc ?_ _) | (with_reducible refine Kd.C_drewN ?_ _) | (with_reducible refine Kd.C_drew ?_))); (case aB => exact q5_11); (case aF => exact (fun _ _ => trivial)); (case aO => exact (by (with_reducible repeat (first | apply Kd.R_alloc | apply Kd.R_drewN | apply Kd.R_drew)); exact HO203.out)); (case aS => exact (below_size q5_11)); (case aL => have := LMc2.out; omega); intro v205 w5 ho hb hg hat; rw [← Ny204.out] at ho; have n0_ := A5_ (hb); have n1_ := A5_ (ho); clear HB HO203; have HB := n0_; have HO206 := n1_; clear n0_ n1_; clear ho hb hg hat; obtain ⟨Ao6, co6, eo6⟩ := Kd.R_slice HO206.out; subst eo6) | ((with_reducible refine gate_dst (N := 7) rfl ?_); refine box_event ?hg (N := 7) ?hd (cs := #[.slice Ao6 y204.length co6, .int .i64 0]) (t := 104) ?hr ?_; (case hd => rfl); (case hg => rfl); (case hr => first | (go_simp; done) | (go_simp; rfl)); intro gb207 hg w7 hbox hb; have n0_ := A5_ (Kd.R_below (by (with_reducible repeat (first | apply Kd.R_alloc | apply Kd.R_drewN | apply Kd.R_drew)); exact HO206.out) hb); have n1_ := A5_ (below_step q5_11 hb); have n2_ := A5_ (hbox); have n3_ := A5_ ((by rw [hg]; exact (below_size q5_11) : w.heap.size ≤ gb207)); have n4_ := A5_ ((by rw [hg]; exact (below_size q5_11) : w.heap.size ≤ gb207)); clear HO206 HB; have HO206 := n0_; have HB := n1_; have BK207 := n2_; have GW207 := n3_; have GE207 := n4_; clear n0_ n1_ n2_ n3_ n4_; clear hb hbox hg))
  go_ret
  exact ⟨(.slice Ao6 y204.length co6), gb207, by first | rfl | (simp [errW_none, errW_some, ptrW_true, ptrW_false] <;> rfl) | (simp [*, errW_none, errW_some, ptrW_true, ptrW_false] <;> rfl), by (with_reducible repeat (first | apply Kd.R_alloc | apply Kd.R_drewN | apply Kd.R_drew)); exact HO206.out, (by (with_reducible repeat (first | refine blk_drewN ?_ _ | refine blk_drew ?_ | refine blk_alloc ?_ _)); exact BK207.out), GW207.out, by repeat (first | (with_reducible first | exact HB.out | apply below_alloc | apply pw_below_drewN | apply below_drew1 | refine below_set ?_ GE207.out) | exact HB.out)⟩
 ·rw [if_neg c2] at H
  exact absurd H (by simp)

/-! ### codec_Reader_Err: function 44 -/
def codec_Reader_Err.f (l0_0 : List Int) (a0_1 : Int) : Option (Int × List Int × Int) := some (a0_1, l0_0, a0_1)
set_option maxHeartbeats 8000000 in
set_option maxRecDepth 100000 in
theorem codec_Reader_Err.calls (g : Nat) (P0_0_ : Nat → Prop) (A0_0 : Option Addr) (c0_0 : Nat) (l0_0 : List Int) (a0_1 : Int) (r1 : Int) (r2 : List Int) (r3 : Int) (w0 w : World) (hb : w.heap[g]? = some (.cells #[.slice A0_0 l0_0.length c0_0, .int .i64 a0_1] 104 (0, 0))) (hg : w0.heap.size ≤ g) (hB : Below w0.heap.size w0 w) (hs0_0 : Kd.V (Kd.int .u8) 5 w w0.heap.size (fun k_ => P0_0_ k_ ∧ k_ ≠ g) (.slice A0_0 l0_0.length c0_0) l0_0) (h : codec_Reader_Err.f l0_0 a0_1 = some (r1, r2, r3)) :
  Calls Try.prog 44 #[.pointer (some ⟨g, 0, none⟩)] w fun e w' => ∃ v1_ : Value, Aside0 (e = .returned (.int .i64 r1) ∧ Kd.V (Kd.int .u8) 5 w' w0.heap.size (fun k_ => (P0_0_ k_ ∨ w.heap.size ≤ k_)) v1_ r2 ∧ w'.heap[g]? = some (.cells #[v1_, .int .i64 r3] 104 (0, 0)) ∧ Below w0.heap.size w0 w' ∧ Kept w w' (fun k_ => k_ = g)) := by
 have HO0_0 := A5_ (show Kd.V (Kd.int .u8) 5 w w0.heap.size (fun k_ => (P0_0_ k_ ∨ w.heap.size ≤ k_) ∧ k_ ≠ g) (.slice A0_0 l0_0.length c0_0) l0_0 from Kd.V_mono hs0_0 (fun k_ hk => ⟨.inl hk.1, hk.2⟩))
 have HK := A5_ (Kept.refl w (fun k_ => k_ = g))
 have BK0 := A5_ hb
 have GE0 := A5_ hg
 clear hb hg
 have HW0 := A5_ hB.size
 have HB := A5_ hB
 clear hB
 have H : (some (a0_1, l0_0, a0_1)) = some (r1, r2, r3) := h
 clear h
 simp only [Option.some.injEq, Prod.mk.injEq] at H
 obtain ⟨rfl, rfl, rfl⟩ := H
 have hcz2_0 : w.cell? ⟨g, 0, none⟩ = some (.slice A0_0 l0_0.length c0_0) := bc5_ BK0 0
 have hcz2_1 : w.cell? ⟨g, 1, none⟩ = some (.int .i64 a0_1) := bc5_ BK0 1
 have hfz2_0 := blk_frozen BK0.out 0
 have hfz2_1 := blk_frozen BK0.out 1
 go_enter Try.func44, Try.ntmps44
 go_wp2
 go_ret
 exact ⟨(.slice A0_0 l0_0.length c0_0), by first | rfl | (simp [errW_none, errW_some, ptrW_true, ptrW_false] <;> rfl) | (simp [*, errW_none, errW_some, ptrW_true, ptrW_false] <;> rfl), by (with_reducible repeat (first | apply Kd.V_alloc | apply Kd.V_drewN | apply Kd.V_drew)); exact Kd.V_mono HO0_0.out (fun _ hk => hk.1), q5_4, by repeat (first | (with_reducible first | exact HB.out | apply below_alloc | apply pw_below_drewN | apply below_drew1 | refine below_set ?_ GE0.out) | exact HB.out), by repeat (first | (with_reducible first | exact HK.out | apply Kept.alloc | apply Kept.drewN | apply Kept.drew | refine Kept.setCell ?_ (.inl (show g = g from rfl)) _) | exact HK.out)⟩

/-! ### codec_Reader_Fail: function 69 -/
def codec_Reader_Fail.f (l0_0 : List Int) (a0_1 : Int) (a1 : Int) : Option (List Int × Int) := if a0_1 = 0 then (some (l0_0, a1)) else (some (l0_0, a0_1))
set_option maxHeartbeats 8000000 in
set_option maxRecDepth 100000 in
theorem codec_Reader_Fail.calls (g : Nat) (P0_0_ : Nat → Prop) (A0_0 : Option Addr) (c0_0 : Nat) (l0_0 : List Int) (a0_1 : Int) (a1 : Int) (r1 : List Int) (r2 : Int) (w0 w : World) (hb : w.heap[g]? = some (.cells #[.slice A0_0 l0_0.length c0_0, .int .i64 a0_1] 104 (0, 0))) (hg : w0.heap.size ≤ g) (hB : Below w0.heap.size w0 w) (hs0_0 : Kd.V (Kd.int .u8) 5 w w0.heap.size (fun k_ => P0_0_ k_ ∧ k_ ≠ g) (.slice A0_0 l0_0.length c0_0) l0_0) (h : codec_Reader_Fail.f l0_0 a0_1 a1 = some (r1, r2)) :
  Calls Try.prog 69 #[.pointer (some ⟨g, 0, none⟩), .int .i64 a1] w fun e w' => ∃ v0_ : Value, Aside0 (e = .returned (.tuple #[]) ∧ Kd.V (Kd.int .u8) 5 w' w0.heap.size (fun k_ => (P0_0_ k_ ∨ w.heap.size ≤ k_)) v0_ r1 ∧ w'.heap[g]? = some (.cells #[v0_, .int .i64 r2] 104 (0, 0)) ∧ Below w0.heap.size w0 w' ∧ Kept w w' (fun k_ => k_ = g)) := by
 have HO0_0 := A5_ (show Kd.V (Kd.int .u8) 5 w w0.heap.size (fun k_ => (P0_0_ k_ ∨ w.heap.size ≤ k_) ∧ k_ ≠ g) (.slice A0_0 l0_0.length c0_0) l0_0 from Kd.V_mono hs0_0 (fun k_ hk => ⟨.inl hk.1, hk.2⟩))
 have HK := A5_ (Kept.refl w (fun k_ => k_ = g))
 have BK0 := A5_ hb
 have GE0 := A5_ hg
 clear hb hg
 have HW0 := A5_ hB.size
 have HB := A5_ hB
 clear hB
 have H : (if a0_1 = 0 then (some (l0_0, a1)) else (some (l0_0, a0_1))) = some (r1, r2) := h
 clear h
 by_cases c3 : a0_1 = 0
 ·rw [if_pos c3] at H
  have c3b0 : (a0_1 == 0) = true := beq_iff_eq.mpr c3
  have c3b1 : (a0_1 != 0) = false := bne_eq_false_iff_eq.mpr c3
  clear c3
  simp only [Option.some.injEq, Prod.mk.injEq] at H
  obtain ⟨rfl, rfl⟩ := H
  have hcz4_0 : w.cell? ⟨g, 0, none⟩ = some (.slice A0_0 l0_0.length c0_0) := bc5_ BK0 0
  have hcz4_1 : w.cell? ⟨g, 1, none⟩ = some (.int .i64 a0_1) := bc5_ BK0 1
  have hfz4_0 := blk_frozen BK0.out 0
  have hfz4_1 := blk_frozen BK0.out 1
  go_enter Try.func69, Try.ntmps69
  go_wp2
  first | ((try simp only [Exit.inBlock, Exit.then]); refine bodyPost_ret (results_none rfl _ _ _) rfl ?_) | go_end0
  exact ⟨(.slice A0_0 l0_0.length c0_0), by first | rfl | (simp [errW_none, errW_some, ptrW_true, ptrW_false] <;> rfl) | (simp [*, errW_none, errW_some, ptrW_true, ptrW_false] <;> rfl), by (with_reducible repeat (first | apply Kd.V_alloc | apply Kd.V_drewN | apply Kd.V_drew)); exact Kd.V_mono (Kd.V_far (p := ⟨g, 1, none⟩) (Kd.V_mono HO0_0.out (fun k_ hk => (⟨hk, hk.2⟩ : _ ∧ k_ ≠ g))) (fun _ hk => hk.2) (.int .i64 a1)) (fun _ hk => hk.1.1), (by (with_reducible repeat (first | refine blk_drewN ?_ _ | refine blk_drew ?_ | refine blk_alloc ?_ _)); refine blk_put (cs := #[.slice A0_0 l0_0.length c0_0, .int .i64 a0_1]) ?_ 1 _ rfl; (with_reducible repeat (first | refine blk_drewN ?_ _ | refine blk_drew ?_ | refine blk_alloc ?_ _)); exact BK0.out), by repeat (first | (with_reducible first | exact HB.out | apply below_alloc | apply pw_below_drewN | apply below_drew1 | refine below_set ?_ GE0.out) | exact HB.out), by repeat (first | (with_reducible first | exact HK.out | apply Kept.alloc | apply Kept.drewN | apply Kept.drew | refine Kept.setCell ?_ (.inl (show g = g from rfl)) _) | exact HK.out)⟩
 ·rw [if_neg c3] at H
  have c3b0 : (a0_1 == 0) = false := beq_eq_false_iff_ne.mpr c3
  have c3b1 : (a0_1 != 0) = true := bne_iff_ne.mpr c3
  simp only [Option.some.injEq, Prod.mk.injEq] at H
  obtain ⟨rfl, rfl⟩ := H
  have hcz5_0 : w.cell? ⟨g, 0, none⟩ = some (.slice A0_0 l0_0.length c0_0) := bc5_ BK0 0
  have hcz5_1 : w.cell? ⟨g, 1, none⟩ = some (.int .i64 a0_1) := bc5_ BK0 1
  have hfz5_0 := blk_frozen BK0.out 0
  have hfz5_1 := blk_frozen BK0.out 1
  go_enter Try.func69, Try.ntmps69
  go_wp2
  first | ((try simp only [Exit.inBlock, Exit.then]); refine bodyPost_ret (results_none rfl _ _ _) rfl ?_) | go_end0
  exact ⟨(.slice A0_0 l0_0.length c0_0), by first | rfl | (simp [errW_none, errW_some, ptrW_true, ptrW_false] <;> rfl) | (simp [*, errW_none, errW_some, ptrW_true, ptrW_false] <;> rfl), by (with_reducible repeat (first | apply Kd.V_alloc | apply Kd.V_drewN | apply Kd.V_drew)); exact Kd.V_mono HO0_0.out (fun _ hk => hk.1), q5_4, by repeat (first | (with_reducible first | exact HB.out | apply below_alloc | apply pw_below_drewN | apply below_drew1 | refine below_set ?_ GE0.out) | exact HB.out), by repeat (first | (with_reducible first | exact HK.out | apply Kept.alloc | apply Kept.drewN | apply Kept.drew | refine Kept.setCell ?_ (.inl (show g = g from rfl)) _) | exact HK.out)⟩

/-! ### codec_Reader_take: function 97 -/
def codec_Reader_take.f (l0_0 : List Int) (a0_1 : Int) (a1 : Int) : Option (List Int × Bool × List Int × Int) := if a0_1 = 0 then (if a1 > (l0_0.length : Int) then ((codec_Reader_Fail.f l0_0 a0_1 4).bind fun bt208 => (some (([] : List Int), false, bt208.1, bt208.2))) else (if 0 ≤ a1 then (if a1 ≤ (l0_0.length : Int) then (some ((l0_0.take (a1 : Int).toNat), true, (l0_0.drop (a1 : Int).toNat), a0_1)) else (none)) else (none))) else ((codec_Reader_Fail.f l0_0 a0_1 4).bind fun bt222 => (some (([] : List Int), false, bt222.1, bt222.2)))
set_option maxHeartbeats 8000000 in
set_option maxRecDepth 100000 in
theorem codec_Reader_take.calls (g : Nat) (P0_0_ : Nat → Prop) (A0_0 : Option Addr) (c0_0 : Nat) (l0_0 : List Int) (a0_1 : Int) (a1 : Int) (r1 : List Int) (r2 : Bool) (r3 : List Int) (r4 : Int) (w0 w : World) (hb : w.heap[g]? = some (.cells #[.slice A0_0 l0_0.length c0_0, .int .i64 a0_1] 104 (0, 0))) (hg : w0.heap.size ≤ g) (hB : Below w0.heap.size w0 w) (hs0_0 : Kd.V (Kd.int .u8) 5 w w0.heap.size (fun k_ => P0_0_ k_ ∧ k_ ≠ g) (.slice A0_0 l0_0.length c0_0) l0_0) (h : codec_Reader_take.f l0_0 a0_1 a1 = some (r1, r2, r3, r4)) :
  Calls Try.prog 97 #[.pointer (some ⟨g, 0, none⟩), .int .i64 a1] w fun e w' => ∃ v0_ v2_ : Value, Aside0 (e = .returned (.tuple #[v0_, .bool r2]) ∧ Kd.V (Kd.int .u8) 5 w' w0.heap.size (fun k_ => (P0_0_ k_ ∨ w.heap.size ≤ k_)) v0_ r1 ∧ Kd.V (Kd.int .u8) 5 w' w0.heap.size (fun k_ => (P0_0_ k_ ∨ w.heap.size ≤ k_)) v2_ r3 ∧ w'.heap[g]? = some (.cells #[v2_, .int .i64 r4] 104 (0, 0)) ∧ Below w0.heap.size w0 w' ∧ Kept w w' (fun k_ => k_ = g)) := by
 have HO0_0 := A5_ (show Kd.V (Kd.int .u8) 5 w w0.heap.size (fun k_ => (P0_0_ k_ ∨ w.heap.size ≤ k_) ∧ k_ ≠ g) (.slice A0_0 l0_0.length c0_0) l0_0 from Kd.V_mono hs0_0 (fun k_ hk => ⟨.inl hk.1, hk.2⟩))
 have HK := A5_ (Kept.refl w (fun k_ => k_ = g))
 have BK0 := A5_ hb
 have GE0 := A5_ hg
 clear hb hg
 have HW0 := A5_ hB.size
 have HB := A5_ hB
 clear hB
 have H : (if a0_1 = 0 then (if a1 > (l0_0.length : Int) then ((codec_Reader_Fail.f l0_0 a0_1 4).bind fun bt208 => (some (([] : List Int), false, bt208.1, bt208.2))) else (if 0 ≤ a1 then (if a1 ≤ (l0_0.length : Int) then (some ((l0_0.take (a1 : Int).toNat), true, (l0_0.drop (a1 : Int).toNat), a0_1)) else (none)) else (none))) else ((codec_Reader_Fail.f l0_0 a0_1 4).bind fun bt222 => (some (([] : List Int), false, bt222.1, bt222.2)))) = some (r1, r2, r3, r4) := h
 clear h
 by_cases c3 : a0_1 = 0
 ·rw [if_pos c3] at H
  have c3b0 : (a0_1 == 0) = true := beq_iff_eq.mpr c3
  have c3b1 : (a0_1 != 0) = false := bne_eq_false_iff_eq.mpr c3
  clear c3
  by_cases c4 : a1 > (l0_0.length : Int)
  ·rw [if_pos c4] at H
   have c4b0 : decide ((l0_0.length : Int) < a1) = true := decide_eq_true c4
   clear c4
   replace H := Option.bind_eq_some_iff.mp H
   obtain ⟨⟨t208, t211⟩, A50, H⟩ := H
   replace H : (some (([] : List Int), false, t208, t211)) = some (r1, r2, r3, r4) := H
   have A5 := A5_ A50
   clear A50
   simp only [Option.some.injEq, Prod.mk.injEq] at H
   obtain ⟨rfl, rfl, rfl, rfl⟩ := H
   have hcz6_0 : w.cell? ⟨g, 0, none⟩ = some (.slice A0_0 l0_0.length c0_0) := bc5_ BK0 0
   have hcz6_1 : w.cell? ⟨g, 1, none⟩ = some (.int .i64 a0_1) := bc5_ BK0 1
   have hfz6_0 := blk_frozen BK0.out 0
   have hfz6_1 := blk_frozen BK0.out 1
   go_enter Try.func97, Try.ntmps97
   go_wp2_with (first | ((with_reducible refine gate_callee (f := 69) rfl ?_); refine goesL_ (some 22) rfl rfl Try.func69 (by kernel_rfl) rfl #[.pointer (some ⟨g, 0, none⟩), .int .i64 4] rfl q5_7 ?_; (with_reducible refine (codec_Reader_Fail.calls g (fun k_ => ((P0_0_ k_ ∨ w.heap.size ≤ k_) ∧ k_ ≠ g)) A0_0 c0_0 l0_0 a0_1 4 t208 t211 w0 _ ?side2 ?side3 ?side1 ?side4 A5.out).mono ?_); (case side1 => repeat (first | (with_reducible first | exact HB.out | apply below_alloc | apply pw_below_drewN | apply below_drew1 | refine below_set ?_ GE0.out) | exact HB.out)); (case side2 => (with_reducible repeat (first | refine blk_drewN ?_ _ | refine blk_drew ?_ | refine blk_alloc ?_ _)); exact BK0.out); (case side3 => exact GE0.out); (case side4 => exact Kd.V_mono (HO0_0.out) (fun k_ hk_ => ⟨hk_, hk_.2⟩)); rintro e w7 ⟨v209, rfl, ho0, hbx, hb, hkp⟩; refine ⟨_, rfl, ?_⟩; have n0_ := A5_ (hbx); have n1_ := A5_ (Kd.V_mono (ok' := fun k_ => (P0_0_ k_ ∨ w.heap.size ≤ k_) ∧ k_ ≠ g) (Kd.V_keptB (HO0_0.out) hkp (fun k_ hk_ hs_ => (hk_.2) hs_)) (fun k_ hk_ => ⟨hk_.1.1, hk_.1.2⟩)); have n2_ := A5_ (Kd.V_mono (ok' := fun k_ => (P0_0_ k_ ∨ w.heap.size ≤ k_) ∧ k_ ≠ g) ho0 (fun k_ hk_ => ⟨Or.elim hk_ (fun hs_ => hs_.1) (fun hn_ => (.inr (Nat.le_trans q5_20 hn_))), Or.elim hk_ (fun hs_ => hs_.2) (fun hn_ => (Kd.freshB (g := g) (o := .cells #[.slice A0_0 l0_0.length c0_0, .int .i64 a0_1] 104 (0, 0)) q5_4 k_ hn_))⟩)); have n3_ := A5_ (Kept.then_ (S := (fun k_ => k_ = g)) q5_23 hkp (fun k_ hs_ => (fun e_ => .inl e_) hs_)); have n4_ := A5_ (hb); clear BK0 HO0_0 HK HB; have BK0 := n0_; have HO0_0 := n1_; have HO210 := n2_; have HK := n3_; have HB := n4_; clear n0_ n1_ n2_ n3_ n4_; (try clear hbx); (try clear hbn); (try clear hgn); (try clear hb); (try clear hkp); (try clear ho0)))
   go_ret2
   exact ⟨_, (v209), by first | rfl | (simp [errW_none, errW_some, ptrW_true, ptrW_false] <;> rfl) | (simp [*, errW_none, errW_some, ptrW_true, ptrW_false] <;> rfl), (Kd.V_nil _ _ _ _ _), by (with_reducible repeat (first | apply Kd.V_alloc | apply Kd.V_drewN | apply Kd.V_drew)); exact Kd.V_mono HO210.out (fun _ hk => hk.1), q5_4, by repeat (first | (with_reducible first | exact HB.out | apply below_alloc | apply pw_below_drewN | apply below_drew1 | refine below_set ?_ GE0.out) | exact HB.out), by repeat (first | (with_reducible first | exact HK.out | apply Kept.alloc | apply Kept.drewN | apply Kept.drew | refine Kept.setCell ?_ (.inl (show g = g from rfl)) _) | exact HK.out)⟩
  ·rw [if_neg c4] at H
   have c4b0 : decide ((l0_0.length : Int) < a1) = false := decide_eq_false c4
   clear c4
   by_cases c8 : 0 ≤ a1
   ·rw [if_pos c8] at H
    have c8b0 := eq_true c8
    have c8b1 : decide (0 ≤ a1) = true := decide_eq_true c8
    clear c8
    by_cases c9 : a1 ≤ (l0_0.length : Int)
    ·rw [if_pos c9] at H
     have c9b0 := eq_true c9
     have c9b1 : decide (a1 ≤ (l0_0.length : Int)) = true := decide_eq_true c9
     clear c9
     obtain ⟨y212, hy212⟩ : ∃ y_ : List Int, y_ = (l0_0.take (a1 : Int).toNat) := ⟨_, rfl⟩
     replace H : (some (y212, true, (l0_0.drop (a1 : Int).toNat), a0_1)) = some (r1, r2, r3, r4) := by first | (rw [hy212]; with_reducible exact H) | (have H2_ := (Option.bind_some _ _).symm.trans H; rw [hy212]; with_reducible exact H2_) | (have H2_ := (Option.bind_some _ _).symm.trans H; with_reducible exact H2_) | with_reducible exact H | (rw [hy212]; exact H) | exact H
     have Ny212 := A5_ hy212
     clear hy212
     have c10b0 := eq_true (of_decide_eq_true q5_16 : 0 ≤ a1)
     have c11b0 := eq_true (of_decide_eq_true q5_16 : a1 ≤ (l0_0.length : Int))
     obtain ⟨y217, hy217⟩ : ∃ y_ : List Int, y_ = (l0_0.drop (a1 : Int).toNat) := ⟨_, rfl⟩
     replace H : (some (y212, true, y217, a0_1)) = some (r1, r2, r3, r4) := by first | (rw [hy217]; with_reducible exact H) | (have H2_ := (Option.bind_some _ _).symm.trans H; rw [hy217]; with_reducible exact H2_) | (have H2_ := (Option.bind_some _ _).symm.trans H; with_reducible exact H2_) | with_reducible exact H | (rw [hy217]; exact H) | exact H
     have Ny217 := A5_ hy217
     clear hy217
     simp only [Option.some.injEq, Prod.mk.injEq] at H
     obtain ⟨rfl, rfl, rfl, rfl⟩ := H
     have hcz12_0 : w.cell? ⟨g, 0, none⟩ = some (.slice A0_0 l0_0.length c0_0) := bc5_ BK0 0
     have hcz12_1 : w.cell? ⟨g, 1, none⟩ = some (.int .i64 a0_1) := bc5_ BK0 1
     have hfz12_0 := blk_frozen BK0.out 0
     have hfz12_1 := blk_frozen BK0.out 1
     have q13 : (a1 : Int) ≤ ((l0_0.length : Int) : Int) := of_decide_eq_true q5_16
     obtain ⟨i013, hi013, _, hsz13, _⟩ := info_parts info5
     have hroom13 : l0_0.length ≤ c0_0 := (Kd.V_reads' HO0_0.out).2.1
     have hC13 : Kd.F (Kd.int .u8) _ _ A0_0 l0_0.length l0_0 := (Kd.V_at (base := w0.heap.size) HO0_0.out).2.2
     have hcut13 := fun kh_ => cut_to (P := Try.prog) 22 5 kh_ Try.underlying22 hi013 A0_0 l0_0.length c0_0 a1 (of_decide_eq_true q5_16) q13 hroom13
     have hr13 := Kd.F_take (m := (a1 : Int).toNat) hC13 (by omega)
     have hy13 : y212.length = (a1 : Int).toNat := (by rw [Ny212.out, List.length_take]; omega)
     rw [← Ny212.out] at hr13
     rw [← hy13] at hcut13
     have HO216 := A5_ (show Kd.V (Kd.int .u8) 5 _ w0.heap.size _ (.slice A0_0 y212.length c0_0) y212 from Kd.V_mk (by omega) hr13)
     have HC216 := A5_ (show y212.length ≤ c0_0 from by omega)
     clear hr13 hC13 hroom13 hi013 hsz13
     have KY13 := A5_ hy13
     clear hy13
     replace q13 := eq_true q13
     have q14 : (a1 : Int) ≤ ((l0_0.length : Int) : Int) := of_decide_eq_true q5_16
     obtain ⟨i014, hi014, _, hsz14, _⟩ := info_parts info5
     have hroom14 : l0_0.length ≤ c0_0 := (Kd.V_reads' HO0_0.out).2.1
     have hC14 : Kd.F (Kd.int .u8) _ _ A0_0 l0_0.length l0_0 := (Kd.V_at (base := w0.heap.size) HO0_0.out).2.2
     have q014 : (0 : Int) ≤ (a1 : Int) := of_decide_eq_true q5_16
     have hcut14 := fun kh_ => cut_from (P := Try.prog) 22 5 kh_ Try.underlying22 hi014 1 hsz14 A0_0 l0_0.length c0_0 a1 q014 q14
     have hr14 := Kd.F_cut (m := (a1 : Int).toNat) (c := c0_0) hC14 (by omega) hroom14
     obtain ⟨A14, hA14⟩ : ∃ A1, A1 = (if c0_0 = (a1 : Int).toNat then A0_0 else (A0_0 : Option Addr).map (·.add ((a1 : Int).toNat * 1))) := ⟨_, rfl⟩
     obtain ⟨c14, hc14⟩ : ∃ c1, c1 = c0_0 - (a1 : Int).toNat := ⟨_, rfl⟩
     have hy14 : y217.length = l0_0.length - (a1 : Int).toNat := (by rw [Ny217.out, List.length_drop] <;> omega)
     rw [show (l0_0).drop (a1 : Int).toNat = y217 from Ny217.out.symm] at hr14
     replace hr14 : Kd.F (Kd.int .u8) _ _ A14 y217.length y217 := (by rw [hA14]; exact hr14)
     rw [← hy14, ← hA14, ← hc14] at hcut14
     have HO221 := A5_ (show Kd.V (Kd.int .u8) 5 _ w0.heap.size _ (.slice A14 y217.length c14) y217 from Kd.V_mk (by rw [hy14, hc14]; exact Nat.sub_le_sub_right hroom14 _) hr14)
     have HC221 := A5_ (show y217.length ≤ c14 from by rw [hy14, hc14]; exact Nat.sub_le_sub_right hroom14 _)
     clear hr14 hC14 hroom14 hi014 hsz14 hc14
     have KY14 := A5_ hy14
     have KA14 := A5_ hA14
     clear hy14 hA14
     replace q14 := eq_true q14
     go_enter Try.func97, Try.ntmps97
     go_wp2
     go_ret2
     exact ⟨_, (.slice A14 y217.length c14), by first | rfl | (simp [errW_none, errW_some, ptrW_true, ptrW_false] <;> rfl) | (simp [*, errW_none, errW_some, ptrW_true, ptrW_false] <;> rfl), by (with_reducible repeat (first | apply Kd.V_alloc | apply Kd.V_drewN | apply Kd.V_drew)); exact Kd.V_mono (Kd.V_far (p := ⟨g, 0, none⟩) (Kd.V_mono HO216.out (fun k_ hk => (⟨hk, hk.2⟩ : _ ∧ k_ ≠ g))) (fun _ hk => hk.2) (.slice A14 y217.length c14)) (fun _ hk => hk.1.1), by (with_reducible repeat (first | apply Kd.V_alloc | apply Kd.V_drewN | apply Kd.V_drew)); exact Kd.V_mono (Kd.V_far (p := ⟨g, 0, none⟩) (Kd.V_mono HO221.out (fun k_ hk => (⟨hk, hk.2⟩ : _ ∧ k_ ≠ g))) (fun _ hk => hk.2) (.slice A14 y217.length c14)) (fun _ hk => hk.1.1), (by (with_reducible repeat (first | refine blk_drewN ?_ _ | refine blk_drew ?_ | refine blk_alloc ?_ _)); refine blk_put (cs := #[.slice A0_0 l0_0.length c0_0, .int .i64 a0_1]) ?_ 0 _ rfl; (with_reducible repeat (first | refine blk_drewN ?_ _ | refine blk_drew ?_ | refine blk_alloc ?_ _)); exact BK0.out), by repeat (first | (with_reducible first | exact HB.out | apply below_alloc | apply pw_below_drewN | apply below_drew1 | refine below_set ?_ GE0.out) | exact HB.out), by repeat (first | (with_reducible first | exact HK.out | apply Kept.alloc | apply Kept.drewN | apply Kept.drew | refine Kept.setCell ?_ (.inl (show g = g from rfl)) _) | exact HK.out)⟩
    ·rw [if_neg c9] at H
     exact absurd H (by simp)
   ·rw [if_neg c8] at H
    exact absurd H (by simp)
 ·rw [if_neg c3] at H
  have c3b0 : (a0_1 == 0) = false := beq_eq_false_iff_ne.mpr c3
  have c3b1 : (a0_1 != 0) = true := bne_iff_ne.mpr c3
  replace H := Option.bind_eq_some_iff.mp H
  obtain ⟨⟨t222, t225⟩, A150, H⟩ := H
  replace H : (some (([] : List Int), false, t222, t225)) = some (r1, r2, r3, r4) := H
  have A15 := A5_ A150
  clear A150
  simp only [Option.some.injEq, Prod.mk.injEq] at H
  obtain ⟨rfl, rfl, rfl, rfl⟩ := H
  have hcz16_0 : w.cell? ⟨g, 0, none⟩ = some (.slice A0_0 l0_0.length c0_0) := bc5_ BK0 0
  have hcz16_1 : w.cell? ⟨g, 1, none⟩ = some (.int .i64 a0_1) := bc5_ BK0 1
  have hfz16_0 := blk_frozen BK0.out 0
  have hfz16_1 := blk_frozen BK0.out 1
  go_enter Try.func97, Try.ntmps97
  go_wp2_with (first | ((with_reducible refine gate_callee (f := 69) rfl ?_); refine goesL_ (some 22) rfl rfl Try.func69 (by kernel_rfl) rfl #[.pointer (some ⟨g, 0, none⟩), .int .i64 4] rfl q5_7 ?_; (with_reducible refine (codec_Reader_Fail.calls g (fun k_ => ((P0_0_ k_ ∨ w.heap.size ≤ k_) ∧ k_ ≠ g)) A0_0 c0_0 l0_0 a0_1 4 t222 t225 w0 _ ?side2 ?side3 ?side1 ?side4 A15.out).mono ?_); (case side1 => repeat (first | (with_reducible first | exact HB.out | apply below_alloc | apply pw_below_drewN | apply below_drew1 | refine below_set ?_ GE0.out) | exact HB.out)); (case side2 => (with_reducible repeat (first | refine blk_drewN ?_ _ | refine blk_drew ?_ | refine blk_alloc ?_ _)); exact BK0.out); (case side3 => exact GE0.out); (case side4 => exact Kd.V_mono (HO0_0.out) (fun k_ hk_ => ⟨hk_, hk_.2⟩)); rintro e w17 ⟨v223, rfl, ho0, hbx, hb, hkp⟩; refine ⟨_, rfl, ?_⟩; have n0_ := A5_ (hbx); have n1_ := A5_ (Kd.V_mono (ok' := fun k_ => (P0_0_ k_ ∨ w.heap.size ≤ k_) ∧ k_ ≠ g) (Kd.V_keptB (HO0_0.out) hkp (fun k_ hk_ hs_ => (hk_.2) hs_)) (fun k_ hk_ => ⟨hk_.1.1, hk_.1.2⟩)); have n2_ := A5_ (Kd.V_mono (ok' := fun k_ => (P0_0_ k_ ∨ w.heap.size ≤ k_) ∧ k_ ≠ g) ho0 (fun k_ hk_ => ⟨Or.elim hk_ (fun hs_ => hs_.1) (fun hn_ => (.inr (Nat.le_trans q5_20 hn_))), Or.elim hk_ (fun hs_ => hs_.2) (fun hn_ => (Kd.freshB (g := g) (o := .cells #[.slice A0_0 l0_0.length c0_0, .int .i64 a0_1] 104 (0, 0)) q5_4 k_ hn_))⟩)); have n3_ := A5_ (Kept.then_ (S := (fun k_ => k_ = g)) q5_23 hkp (fun k_ hs_ => (fun e_ => .inl e_) hs_)); have n4_ := A5_ (hb); clear BK0 HO0_0 HK HB; have BK0 := n0_; have HO0_0 := n1_; have HO224 := n2_; have HK := n3_; have HB := n4_; clear n0_ n1_ n2_ n3_ n4_; (try clear hbx); (try clear hbn); (try clear hgn); (try clear hb); (try clear hkp); (try clear ho0)))
  go_ret2
  exact ⟨_, (v223), by first | rfl | (simp [errW_none, errW_some, ptrW_true, ptrW_false] <;> rfl) | (simp [*, errW_none, errW_some, ptrW_true, ptrW_false] <;> rfl), (Kd.V_nil _ _ _ _ _), by (with_reducible repeat (first | apply Kd.V_alloc | apply Kd.V_drewN | apply Kd.V_drew)); exact Kd.V_mono HO224.out (fun _ hk => hk.1), q5_4, by repeat (first | (with_reducible first | exact HB.out | apply below_alloc | apply pw_below_drewN | apply below_drew1 | refine below_set ?_ GE0.out) | exact HB.out), by repeat (first | (with_reducible first | exact HK.out | apply Kept.alloc | apply Kept.drewN | apply Kept.drew | refine Kept.setCell ?_ (.inl (show g = g from rfl)) _) | exact HK.out)⟩

end Go.Proofs.Ytkckojgjkmcokaa.PF09B
