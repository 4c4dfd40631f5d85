/- By a program of this session (wip/tool/pp.py): plain Lean functions of the Go functions that this family of laws uses, the walks that the Go code comes to their answers, and the row of the law. No condition beside those that the row itself gives. -/
import Derived.Test.YtkckojgjkmcokaaPF09Bx0
import Derived.Test.YtkckojgjkmcokaaPF09Bx5
namespace Go.Proofs.Ytkckojgjkmcokaa.PF09B
open Go.RowKit Go.Proofs.YtkckojgjkmcokaaW.Hand Go.Proofs.YtkckojgjkmcokaaW.PrintWords Go.Proofs.YtkckojgjkmcokaaW.PrintLast Go.Proofs.YtkckojgjkmcokaaW.PrintMore
attribute [local go_sem] max2_int min2_int max_two min_two max_three min_three max_four min_four   -- for this text's walks alone
set_option linter.unusedVariables false
set_option linter.unusedSimpArgs false

/-! ### codec_Reader_Number: function 92 -/
mutual
def codec_Reader_Number.l0 : Nat → Int → Int → List Int → Int → Option (Int × List Int × Int)
 | 0, _, _, _, _ => none
 | k + 1, x3, x7, x1000, x1001 => if x7 < 8 then ((codec_Reader_take.f x1000 x1001 1).bind fun bt230 => (if bt230.2.1 = true then (if 0 < (bt230.1.length : Int) then (if (rd bt230.1 0) = 0 then (codec_Reader_Number.j1 k x3 x7 bt230.1 x7 (decide (x7 > 0)) bt230.2.2.1 bt230.2.2.2) else (codec_Reader_Number.j1 k x3 x7 bt230.1 x7 false bt230.2.2.1 bt230.2.2.2)) else (none)) else (some (0, bt230.2.2.1, bt230.2.2.2)))) else ((codec_Reader_Fail.f x1000 x1001 5).bind fun bt226 => (some (0, bt226.1, bt226.2)))
def codec_Reader_Number.j1 : Nat → Int → Int → List Int → Int → Bool → List Int → Int → Option (Int × List Int × Int)
 | 0, _, _, _, _, _, _, _ => none
 | k + 1, x3, x4, x5, x7, x18, x1000, x1001 => if x18 = true then ((codec_Reader_Fail.f x1000 x1001 6).bind fun bt239 => (some (0, bt239.1, bt239.2))) else (if 0 < (x5.length : Int) then (if 0 ≤ (IntKind.u64.wrap (wrap64 (7 * x4))) then (if (rd x5 0) < 128 then (some (Go.bits .or .i64 x3 (shl .i64 (wrap64 (Go.bits .and .u8 (rd x5 0) 127)) (IntKind.u64.wrap (wrap64 (7 * x4)))), x1000, x1001)) else (codec_Reader_Number.l0 k (Go.bits .or .i64 x3 (shl .i64 (wrap64 (Go.bits .and .u8 (rd x5 0) 127)) (IntKind.u64.wrap (wrap64 (7 * x4))))) (wrap64 (x7 + 1)) x1000 x1001)) else (none)) else (none))
end
def codec_Reader_Number.f (k : Nat) (l0_0 : List Int) (a0_1 : Int) : Option (Int × List Int × Int) := codec_Reader_Number.l0 k 0 0 l0_0 a0_1
theorem codec_Reader_Number.mono_l : ∀ k, (∀ y0 y1 y2 y3, LeO (codec_Reader_Number.l0 k y0 y1 y2 y3) (codec_Reader_Number.l0 (k + 1) y0 y1 y2 y3)) ∧ (∀ y0 y1 y2 y3 y4 y5 y6, LeO (codec_Reader_Number.j1 k y0 y1 y2 y3 y4 y5 y6) (codec_Reader_Number.j1 (k + 1) y0 y1 y2 y3 y4 y5 y6))
 | 0 => ⟨fun _ _ _ _ r h => by simp [codec_Reader_Number.l0] at h, fun _ _ _ _ _ _ _ r h => by simp [codec_Reader_Number.j1] at h⟩
 | k + 1 => by
  obtain ⟨ih0, ih1⟩ := codec_Reader_Number.mono_l k
  refine ⟨?_, ?_⟩
  ·intro y0 y1 y2 y3
   unfold codec_Reader_Number.l0
   repeat' first
   | (with_reducible exact ih0 _ _ _ _)
   | (with_reducible exact ih1 _ _ _ _ _ _ _)
   | (with_reducible exact LeO.refl _)
   | (with_reducible exact LeO.none _)
   | (with_reducible refine LeO.ite ?_ ?_)
   | (with_reducible refine LeO.bind ?_ (fun _ => ?_))
   | exact ih0 _ _ _ _
   | exact ih1 _ _ _ _ _ _ _
   | exact LeO.none _
   | refine LeO.ite ?_ ?_
   | refine LeO.bind ?_ (fun _ => ?_)
  ·intro y0 y1 y2 y3 y4 y5 y6
   unfold codec_Reader_Number.j1
   repeat' first
   | (with_reducible exact ih0 _ _ _ _)
   | (with_reducible exact ih1 _ _ _ _ _ _ _)
   | (with_reducible exact LeO.refl _)
   | (with_reducible exact LeO.none _)
   | (with_reducible refine LeO.ite ?_ ?_)
   | (with_reducible refine LeO.bind ?_ (fun _ => ?_))
   | exact ih0 _ _ _ _
   | exact ih1 _ _ _ _ _ _ _
   | exact LeO.none _
   | refine LeO.ite ?_ ?_
   | refine LeO.bind ?_ (fun _ => ?_)
theorem codec_Reader_Number.mono : ∀ a0 a1 k, LeO (codec_Reader_Number.f k a0 a1) (codec_Reader_Number.f (k + 1) a0 a1) := by
 intro a0 a1 k
 obtain ⟨ih0, ih1⟩ := codec_Reader_Number.mono_l k
 unfold codec_Reader_Number.f
 repeat' first
   | (with_reducible exact ih0 _ _ _ _)
   | (with_reducible exact ih1 _ _ _ _ _ _ _)
   | (with_reducible exact LeO.refl _)
   | (with_reducible exact LeO.none _)
   | (with_reducible refine LeO.ite ?_ ?_)
   | (with_reducible refine LeO.bind ?_ (fun _ => ?_))
   | exact ih0 _ _ _ _
   | exact ih1 _ _ _ _ _ _ _
   | exact LeO.none _
   | refine LeO.ite ?_ ?_
   | refine LeO.bind ?_ (fun _ => ?_)
theorem A6_ {p : Prop} (h : p) : Aside0 p := ⟨h⟩
theorem q6_2 {p : Prop} (h : p := by (with_reducible repeat (first | refine blk_drewN ?_ _ | refine blk_drew ?_ | refine blk_alloc ?_ _)); exact BK0.out) : p := h
theorem q6_3 {p : Prop} (h : p := by first | exact HK.out.1 | exact (show Kept w _ (fun k_ => k_ = g) from by repeat (first | (with_reducible first | exact HK.out | apply Kept.alloc | apply Kept.drewN | apply Kept.drew | refine Kept.setCell ?_ (.inl (show g = g from rfl)) _ | refine Kept.setCell ?_ (.inr GW245.out) _) | exact HK.out)).1) : p := h
theorem q6_4 {p : Prop} (h : p := by (with_reducible repeat (first | refine blk_drewN ?_ _ | refine blk_drew ?_ | refine blk_alloc ?_ _)); exact BK245.out) : p := h
theorem q6_5 {p : Prop} (h : p := by repeat (first | (with_reducible first | exact HK.out | apply Kept.alloc | apply Kept.drewN | apply Kept.drew | refine Kept.setCell ?_ (.inl (show g = g from rfl)) _ | refine Kept.setCell ?_ (.inr GW245.out) _) | exact HK.out)) : p := h
theorem q6_6 {p : Prop} (h : p := by (try simp only [List.map_toArray, List.map_cons, List.map_nil]); first | done | rfl | (simp only [List.length_drop, List.length_take]; rfl)) : p := h
theorem q6_7 {p : Prop} (h : p := by first | exact HK.out.1 | exact (show Kept w _ (fun k_ => k_ = g) from by repeat (first | (with_reducible first | exact HK.out | apply Kept.alloc | apply Kept.drewN | apply Kept.drew | refine Kept.setCell ?_ (.inl (show g = g from rfl)) _) | exact HK.out)).1) : p := h
theorem q6_8 {p : Prop} (h : p := by repeat (first | (with_reducible first | exact HK.out | apply Kept.alloc | apply Kept.drewN | apply Kept.drew | refine Kept.setCell ?_ (.inl (show g = g from rfl)) _) | exact HK.out)) : p := h
theorem q6_9 {p : Prop} (h : p := by (with_reducible repeat (first | refine blk_drewN ?_ _ | refine blk_drew ?_ | refine blk_alloc ?_ _)); refine blk_far ?_ NB0_245.out _; (with_reducible repeat (first | refine blk_drewN ?_ _ | refine blk_drew ?_ | refine blk_alloc ?_ _)); refine blk_far ?_ NB0_245.out _; (with_reducible repeat (first | refine blk_drewN ?_ _ | refine blk_drew ?_ | refine blk_alloc ?_ _)); refine blk_far ?_ NB0_245.out _; (with_reducible repeat (first | refine blk_drewN ?_ _ | refine blk_drew ?_ | refine blk_alloc ?_ _)); refine blk_far ?_ NB0_245.out _; (with_reducible repeat (first | refine blk_drewN ?_ _ | refine blk_drew ?_ | refine blk_alloc ?_ _)); refine blk_far ?_ NB0_245.out _; (with_reducible repeat (first | refine blk_drewN ?_ _ | refine blk_drew ?_ | refine blk_alloc ?_ _)); exact BK0.out) : p := h
theorem q6_10 {p : Prop} (h : p := by repeat (first | (with_reducible first | exact HB.out | apply below_alloc | apply pw_below_drewN | apply below_drew1 | refine below_set ?_ GE0.out) | exact HB.out)) : p := h
theorem q6_11 {p : Prop} (h : p := by first | (with_reducible assumption) | assumption) : p := h
theorem q6_12 {p : Prop} (h : p := by first | rfl | (simp; done) | (simp [*]; done)) : p := h
theorem q6_13 {p : Prop} (h : p := by kernel_rfl) : p := h
set_option maxHeartbeats 8000000 in
set_option maxRecDepth 100000 in
theorem codec_Reader_Number.calls (k : Nat) (g : Nat) (P0_0_ : Nat → Prop) (A0_0 : Option Addr) (c0_0 : Nat) (l0_0 : List Int) (a0_1 : Int) (r1 : Int) (r2 : List Int) (r3 : Int) (w0 w : World) (hb : w.heap[g]? = some (.cells #[.slice A0_0 l0_0.length c0_0, .int .i64 a0_1] 104 (0, 0))) (hg : w0.heap.size ≤ g) (hB : Below w0.heap.size w0 w) (hs0_0 : Kd.V (Kd.int .u8) 5 w w0.heap.size (fun k_ => P0_0_ k_ ∧ k_ ≠ g) (.slice A0_0 l0_0.length c0_0) l0_0) (h : codec_Reader_Number.f k l0_0 a0_1 = some (r1, r2, r3)) :
  Calls Try.prog 92 #[.pointer (some ⟨g, 0, none⟩)] w fun e w' => ∃ v1_ : Value, Aside0 (e = .returned (.int .i64 r1) ∧ Kd.V (Kd.int .u8) 5 w' w0.heap.size (fun k_ => (P0_0_ k_ ∨ w.heap.size ≤ k_)) v1_ r2 ∧ w'.heap[g]? = some (.cells #[v1_, .int .i64 r3] 104 (0, 0)) ∧ Below w0.heap.size w0 w' ∧ Kept w w' (fun k_ => k_ = g)) := by
 have HO0_0 := A6_ (show Kd.V (Kd.int .u8) 5 w w0.heap.size (fun k_ => (P0_0_ k_ ∨ w.heap.size ≤ k_) ∧ k_ ≠ g) (.slice A0_0 l0_0.length c0_0) l0_0 from Kd.V_mono hs0_0 (fun k_ hk => ⟨.inl hk.1, hk.2⟩))
 have HK := A6_ (Kept.refl w (fun k_ => k_ = g))
 have BK0 := A6_ hb
 have GE0 := A6_ hg
 clear hb hg
 have HW0 := A6_ hB.size
 have HB := A6_ hB
 clear hB
 have H : (codec_Reader_Number.l0 k 0 0 l0_0 a0_1) = some (r1, r2, r3) := h
 clear h
 have H' := A6_ H
 clear H
 go_enter Try.func92, Try.ntmps92
 go_wp2
 go_loopg [3, 7] k (fun kq v3 v7 w' => ∃ (x3_1 : Int) (x7_1 : Int) (x1000_1 : List Int) (x1001_1 : Int) (u1000 : Value), v3 = .int .i64 x3_1 ∧ v7 = .int .i64 x7_1 ∧ Aside0 (codec_Reader_Number.l0 kq x3_1 x7_1 x1000_1 x1001_1 = some (r1, r2, r3)) ∧ Aside0 (kq ≤ k) ∧ Aside0 (Kd.V (Kd.int .u8) 5 w' w0.heap.size (fun k_ => (P0_0_ k_ ∨ w.heap.size ≤ k_) ∧ k_ ≠ g) u1000 x1000_1) ∧ Aside0 (w'.heap[g]? = some (.cells #[u1000, .int .i64 x1001_1] 104 (0, 0))) ∧ Aside0 (Kept w w' (fun k_ => k_ = g)) ∧ Aside0 (Below w0.heap.size w0 w'))
 case atStart => exact ⟨(0), (0), (l0_0), (a0_1), (.slice A0_0 l0_0.length c0_0), q6_12, q6_12, H', ⟨Nat.le_refl _⟩, ⟨by (with_reducible repeat (first | apply Kd.V_alloc | apply Kd.V_drewN | apply Kd.V_drew)); exact HO0_0.out⟩, ⟨by (with_reducible repeat (first | refine blk_drewN ?_ _ | refine blk_drew ?_ | refine blk_alloc ?_ _)); exact BK0.out⟩, ⟨by repeat (first | (with_reducible first | exact HK.out | apply Kept.alloc | apply Kept.drewN | apply Kept.drew | refine Kept.setCell ?_ (.inl (show g = g from rfl)) _) | exact HK.out)⟩, ⟨by repeat (first | (with_reducible first | exact HB.out | apply below_alloc | apply pw_below_drewN | apply below_drew1 | refine below_set ?_ GE0.out) | exact HB.out)⟩⟩
 case round =>
  clear H'
  obtain ⟨x3_1, x7_1, x1000_1, x1001_1, u1000, rfl, rfl, HA, HK1, HO_1000, BK0, HK, HB⟩ := hrel
  cases gk with
  | zero => exact absurd HA.out (by simp [codec_Reader_Number.l0])
  | succ k1 =>
   have H := HA.out
   clear HA
   simp only [codec_Reader_Number.l0] at H
   by_cases c2 : x7_1 < 8
   ·rw [if_pos c2] at H
    have c2b0 : decide (x7_1 < 8) = true := decide_eq_true c2
    clear c2
    replace H := Option.bind_eq_some_iff.mp H
    obtain ⟨⟨t230, t233, t234, t237⟩, A30, H⟩ := H
    replace H : (if t233 = true then (if 0 < (t230.length : Int) then (if (rd t230 0) = 0 then (codec_Reader_Number.j1 k1 x3_1 x7_1 t230 x7_1 (decide (x7_1 > 0)) t234 t237) else (codec_Reader_Number.j1 k1 x3_1 x7_1 t230 x7_1 false t234 t237)) else (none)) else (some (0, t234, t237))) = some (r1, r2, r3) := H
    have A3 := A6_ A30
    clear A30
    by_cases c4 : t233 = true
    ·subst c4
     have H1 : (if 0 < (t230.length : Int) then (if (rd t230 0) = 0 then (codec_Reader_Number.j1 k1 x3_1 x7_1 t230 x7_1 (decide (x7_1 > 0)) t234 t237) else (codec_Reader_Number.j1 k1 x3_1 x7_1 t230 x7_1 false t234 t237)) else (none)) = some (r1, r2, r3) := by rw [if_pos rfl] at H; exact H
     clear H
     have H := H1
     clear H1
     have HC5 := A6_ H
     clear H
     obtain ⟨Ao6, co6, eo6⟩ := Kd.V_slice HO_1000.out
     subst eo6
     go_upto_region 8 with (first | ((with_reducible refine gate_callee (f := 97) rfl ?_); refine goesL_ (some 12) rfl rfl Try.func97 q6_13 rfl #[.pointer (some ⟨g, 0, none⟩), .int .i64 1] rfl q6_6 ?_; (with_reducible refine (codec_Reader_take.calls g (fun k_ => ((P0_0_ k_ ∨ w.heap.size ≤ k_) ∧ k_ ≠ g)) Ao6 co6 x1000_1 x1001_1 1 t230 true t234 t237 w0 _ ?side2 ?side3 ?side1 ?side4 A3.out).mono ?_); (case side1 => repeat (first | (with_reducible first | exact HB.out | apply below_alloc | apply pw_below_drewN | apply below_drew1 | refine below_set ?_ GE0.out) | exact HB.out)); (case side2 => (with_reducible repeat (first | refine blk_drewN ?_ _ | refine blk_drew ?_ | refine blk_alloc ?_ _)); exact BK0.out); (case side3 => exact GE0.out); (case side4 => exact Kd.V_mono (HO_1000.out) (fun k_ hk_ => ⟨hk_, hk_.2⟩)); rintro e w7 ⟨v231, v235, rfl, ho0, ho1, hbx, hb, hkp⟩; refine ⟨_, rfl, ?_⟩; have n0_ := A6_ (Kd.V_mono (ok' := fun k_ => (P0_0_ k_ ∨ w.heap.size ≤ k_) ∧ k_ ≠ g) (Kd.V_keptB (HO_1000.out) hkp (fun k_ hk_ hs_ => (hk_.2) hs_)) (fun k_ hk_ => ⟨hk_.1.1, hk_.1.2⟩)); have n1_ := A6_ (hbx); have n2_ := A6_ (Kd.V_mono (ok' := fun k_ => (P0_0_ k_ ∨ w.heap.size ≤ k_) ∧ k_ ≠ g) ho0 (fun k_ hk_ => ⟨Or.elim hk_ (fun hs_ => hs_.1) (fun hn_ => (.inr (Nat.le_trans q6_7 hn_))), Or.elim hk_ (fun hs_ => hs_.2) (fun hn_ => (Kd.freshB (g := g) (o := .cells #[.slice Ao6 x1000_1.length co6, .int .i64 x1001_1] 104 (0, 0)) q6_2 k_ hn_))⟩)); have n3_ := A6_ (Kd.V_mono (ok' := fun k_ => (P0_0_ k_ ∨ w.heap.size ≤ k_) ∧ k_ ≠ g) ho1 (fun k_ hk_ => ⟨Or.elim hk_ (fun hs_ => hs_.1) (fun hn_ => (.inr (Nat.le_trans q6_7 hn_))), Or.elim hk_ (fun hs_ => hs_.2) (fun hn_ => (Kd.freshB (g := g) (o := .cells #[.slice Ao6 x1000_1.length co6, .int .i64 x1001_1] 104 (0, 0)) q6_2 k_ hn_))⟩)); have n4_ := A6_ (Kept.then_ (S := (fun k_ => k_ = g)) q6_8 hkp (fun k_ hs_ => (fun e_ => .inl e_) hs_)); have n5_ := A6_ (hb); clear HO_1000 BK0 HK HB; have HO_1000 := n0_; have BK0 := n1_; have HO232 := n2_; have HO236 := n3_; have HK := n4_; have HB := n5_; clear n0_ n1_ n2_ n3_ n4_ n5_; (try clear hbx); (try clear hbn); (try clear hgn); (try clear hb); (try clear hkp); (try clear ho0); (try clear ho1)))
     (try simp only [Act.put, List.setIfInBounds_toArray, List.set_cons_zero, List.set_cons_succ])
     go_cut [18] (fun v18 wc => ∃ (kq : Nat) (x18_4 : Bool), v18 = .bool x18_4 ∧ Aside0 (codec_Reader_Number.j1 kq x3_1 x7_1 t230 x7_1 x18_4 t234 t237 = some (r1, r2, r3)) ∧ Aside0 (kq ≤ k1) ∧ Aside0 (Kd.V (Kd.int .u8) 5 wc w0.heap.size (fun k_ => (P0_0_ k_ ∨ w.heap.size ≤ k_) ∧ k_ ≠ g) v231 t230) ∧ Aside0 (Kd.V (Kd.int .u8) 5 wc w0.heap.size (fun k_ => (P0_0_ k_ ∨ w.heap.size ≤ k_) ∧ k_ ≠ g) v235 t234) ∧ Aside0 (wc.heap[g]? = some (.cells #[v235, .int .i64 t237] 104 (0, 0))) ∧ Aside0 (Kept w wc (fun k_ => k_ = g)) ∧ Aside0 (Below w0.heap.size w0 wc))
     case first =>
      have H := HC5.out
      clear HC5
      by_cases c8 : 0 < (t230.length : Int)
      ·rw [if_pos c8] at H
       have c8b0 : decide (0 < (t230.length : Int)) = true := decide_eq_true c8
       have c8b1 : decide (0 < t230.length) = true := decide_eq_true (by omega)
       clear c8
       (first | rw [c8b0] | (simp only [i64_w, i32_w]; rw [c8b0]) | rw [c8b1] | rw [c8b2] | skip)
       by_cases c9 : (rd t230 0) = 0
       ·rw [if_pos c9] at H
        have c9b0 : ((rd t230 0) == 0) = true := beq_iff_eq.mpr c9
        have c9b1 : ((rd t230 0) != 0) = false := bne_eq_false_iff_eq.mpr c9
        clear c9
        have H' := A6_ H
        clear H
        obtain ⟨Ao10, co10, eo10⟩ := Kd.V_slice HO232.out
        subst eo10
        have p238 : 0 ≤ (0 : Int) := (by omega)
        have q238 : 0 < (t230.length : Int) := of_decide_eq_true q6_11
        obtain ⟨ad238, e238, hx238_0⟩ := Kd.at_int (Kd.V_reads' HO232.out).2.2 0 p238 q238
        cases e238
        have qi238 : (0 < t230.length) = True := eq_true (by omega)
        (try rw [show ((0 : Int)).toNat = 0 from rfl] at hx238_0)
        (try rw [Addr.add_zero'] at hx238_0)
        replace p238 := eq_true p238
        replace q238 := eq_true q238
        go_wp2
        go_meet
        case rel => exact ⟨_, (decide (x7_1 > 0)), q6_12, H', ⟨by have := HK1.out; first | omega | exact Nat.le_refl _⟩, ⟨by (with_reducible repeat (first | apply Kd.V_alloc | apply Kd.V_drewN | apply Kd.V_drew)); exact HO232.out⟩, ⟨by (with_reducible repeat (first | apply Kd.V_alloc | apply Kd.V_drewN | apply Kd.V_drew)); exact HO236.out⟩, ⟨by (with_reducible repeat (first | refine blk_drewN ?_ _ | refine blk_drew ?_ | refine blk_alloc ?_ _)); exact BK0.out⟩, ⟨by repeat (first | (with_reducible first | exact HK.out | apply Kept.alloc | apply Kept.drewN | apply Kept.drew | refine Kept.setCell ?_ (.inl (show g = g from rfl)) _) | exact HK.out)⟩, ⟨by repeat (first | (with_reducible first | exact HB.out | apply below_alloc | apply pw_below_drewN | apply below_drew1 | refine below_set ?_ GE0.out) | exact HB.out)⟩⟩
       ·rw [if_neg c9] at H
        have c9b0 : ((rd t230 0) == 0) = false := beq_eq_false_iff_ne.mpr c9
        have c9b1 : ((rd t230 0) != 0) = true := bne_iff_ne.mpr c9
        have H' := A6_ H
        clear H
        obtain ⟨Ao11, co11, eo11⟩ := Kd.V_slice HO232.out
        subst eo11
        have p238 : 0 ≤ (0 : Int) := (by omega)
        have q238 : 0 < (t230.length : Int) := of_decide_eq_true q6_11
        obtain ⟨ad238, e238, hx238_0⟩ := Kd.at_int (Kd.V_reads' HO232.out).2.2 0 p238 q238
        cases e238
        have qi238 : (0 < t230.length) = True := eq_true (by omega)
        (try rw [show ((0 : Int)).toNat = 0 from rfl] at hx238_0)
        (try rw [Addr.add_zero'] at hx238_0)
        replace p238 := eq_true p238
        replace q238 := eq_true q238
        go_wp2
        go_meet
        case rel => exact ⟨_, (false), q6_12, H', ⟨by have := HK1.out; first | omega | exact Nat.le_refl _⟩, ⟨by (with_reducible repeat (first | apply Kd.V_alloc | apply Kd.V_drewN | apply Kd.V_drew)); exact HO232.out⟩, ⟨by (with_reducible repeat (first | apply Kd.V_alloc | apply Kd.V_drewN | apply Kd.V_drew)); exact HO236.out⟩, ⟨by (with_reducible repeat (first | refine blk_drewN ?_ _ | refine blk_drew ?_ | refine blk_alloc ?_ _)); exact BK0.out⟩, ⟨by repeat (first | (with_reducible first | exact HK.out | apply Kept.alloc | apply Kept.drewN | apply Kept.drew | refine Kept.setCell ?_ (.inl (show g = g from rfl)) _) | exact HK.out)⟩, ⟨by repeat (first | (with_reducible first | exact HB.out | apply below_alloc | apply pw_below_drewN | apply below_drew1 | refine below_set ?_ GE0.out) | exact HB.out)⟩⟩
      ·rw [if_neg c8] at H
       exact absurd H (by simp)
     case rest =>
      clear HC5
      try clear c2
      try clear c2b0
      try clear p2
      try clear q2
      try clear hx2
      try clear qi2
      try clear c4
      try clear c8
      try clear c8b0
      try clear c8b1
      try clear c8b2
      try clear c9
      try clear c9b0
      try clear c9b1
      try clear hx238_0
      try clear p238
      try clear q238
      obtain ⟨kq, x18_4, rfl, HA, HJ4, HO_5, HO_1000, BK0, HK, HB⟩ := hcut
      cases kq with
      | zero => exact absurd HA.out (by simp [codec_Reader_Number.j1])
      | succ kj4 =>
       have H := HA.out
       clear HA
       simp only [codec_Reader_Number.j1] at H
       by_cases c12 : x18_4 = true
       ·subst c12
        have H1 : ((codec_Reader_Fail.f t234 t237 6).bind fun bt239 => (some (0, bt239.1, bt239.2))) = some (r1, r2, r3) := by rw [if_pos rfl] at H; exact H
        clear H
        have H := H1
        clear H1
        replace H := Option.bind_eq_some_iff.mp H
        obtain ⟨⟨t239, t242⟩, A130, H⟩ := H
        replace H : (some (0, t239, t242)) = some (r1, r2, r3) := H
        have A13 := A6_ A130
        clear A130
        simp only [Option.some.injEq, Prod.mk.injEq] at H
        obtain ⟨rfl, rfl, rfl⟩ := H
        obtain ⟨Ao14, co14, eo14⟩ := Kd.V_slice HO_1000.out
        subst eo14
        go_wp2_with (first | ((with_reducible refine gate_callee (f := 69) rfl ?_); refine goesL_ (some 28) rfl rfl Try.func69 q6_13 rfl #[.pointer (some ⟨g, 0, none⟩), .int .i64 6] rfl q6_6 ?_; (with_reducible refine (codec_Reader_Fail.calls g (fun k_ => ((P0_0_ k_ ∨ w.heap.size ≤ k_) ∧ k_ ≠ g)) Ao14 co14 t234 t237 6 t239 t242 w0 _ ?side2 ?side3 ?side1 ?side4 A13.out).mono ?_); (case side1 => repeat (first | (with_reducible first | exact HB.out | apply below_alloc | apply pw_below_drewN | apply below_drew1 | refine below_set ?_ GE0.out) | exact HB.out)); (case side2 => (with_reducible repeat (first | refine blk_drewN ?_ _ | refine blk_drew ?_ | refine blk_alloc ?_ _)); exact BK0.out); (case side3 => exact GE0.out); (case side4 => exact Kd.V_mono (HO_1000.out) (fun k_ hk_ => ⟨hk_, hk_.2⟩)); rintro e w15 ⟨v240, rfl, ho0, hbx, hb, hkp⟩; refine ⟨_, rfl, ?_⟩; have n0_ := A6_ (Kd.V_mono (ok' := fun k_ => (P0_0_ k_ ∨ w.heap.size ≤ k_) ∧ k_ ≠ g) (Kd.V_keptB (HO_5.out) hkp (fun k_ hk_ hs_ => (hk_.2) hs_)) (fun k_ hk_ => ⟨hk_.1.1, hk_.1.2⟩)); have n1_ := A6_ (Kd.V_mono (ok' := fun k_ => (P0_0_ k_ ∨ w.heap.size ≤ k_) ∧ k_ ≠ g) (Kd.V_keptB (HO_1000.out) hkp (fun k_ hk_ hs_ => (hk_.2) hs_)) (fun k_ hk_ => ⟨hk_.1.1, hk_.1.2⟩)); have n2_ := A6_ (hbx); have n3_ := A6_ (Kd.V_mono (ok' := fun k_ => (P0_0_ k_ ∨ w.heap.size ≤ k_) ∧ k_ ≠ g) ho0 (fun k_ hk_ => ⟨Or.elim hk_ (fun hs_ => hs_.1) (fun hn_ => (.inr (Nat.le_trans q6_7 hn_))), Or.elim hk_ (fun hs_ => hs_.2) (fun hn_ => (Kd.freshB (g := g) (o := .cells #[.slice Ao14 t234.length co14, .int .i64 t237] 104 (0, 0)) q6_2 k_ hn_))⟩)); have n4_ := A6_ (Kept.then_ (S := (fun k_ => k_ = g)) q6_8 hkp (fun k_ hs_ => (fun e_ => .inl e_) hs_)); have n5_ := A6_ (hb); clear HO_5 HO_1000 BK0 HK HB; have HO_5 := n0_; have HO_1000 := n1_; have BK0 := n2_; have HO241 := n3_; have HK := n4_; have HB := n5_; clear n0_ n1_ n2_ n3_ n4_ n5_; (try clear hbx); (try clear hbn); (try clear hgn); (try clear hb); (try clear hkp); (try clear ho0)))
        go_ret
        exact ⟨(v240), by first | rfl | (simp [errW_none, errW_some, ptrW_true, ptrW_false] <;> rfl) | (simp [*, errW_none, errW_some, ptrW_true, ptrW_false] <;> rfl), by (with_reducible repeat (first | apply Kd.V_alloc | apply Kd.V_drewN | apply Kd.V_drew)); exact Kd.V_mono HO241.out (fun _ hk => hk.1), q6_2, by repeat (first | (with_reducible first | exact HB.out | apply below_alloc | apply pw_below_drewN | apply below_drew1 | refine below_set ?_ GE0.out) | exact HB.out), by repeat (first | (with_reducible first | exact HK.out | apply Kept.alloc | apply Kept.drewN | apply Kept.drew | refine Kept.setCell ?_ (.inl (show g = g from rfl)) _) | exact HK.out)⟩
       ·replace c12 := Bool.eq_false_iff.mpr c12
        subst c12
        have H1 : (if 0 < (t230.length : Int) then (if 0 ≤ (IntKind.u64.wrap (wrap64 (7 * x7_1))) then (if (rd t230 0) < 128 then (some (Go.bits .or .i64 x3_1 (shl .i64 (wrap64 (Go.bits .and .u8 (rd t230 0) 127)) (IntKind.u64.wrap (wrap64 (7 * x7_1)))), t234, t237)) else (codec_Reader_Number.l0 kj4 (Go.bits .or .i64 x3_1 (shl .i64 (wrap64 (Go.bits .and .u8 (rd t230 0) 127)) (IntKind.u64.wrap (wrap64 (7 * x7_1))))) (wrap64 (x7_1 + 1)) t234 t237)) else (none)) else (none)) = some (r1, r2, r3) := by rw [if_neg (show ¬ (false = true) by decide)] at H; exact H
        clear H
        have H := H1
        clear H1
        by_cases c16 : 0 < (t230.length : Int)
        ·rw [if_pos c16] at H
         have c16b0 : decide (0 < (t230.length : Int)) = true := decide_eq_true c16
         have c16b1 : decide (0 < t230.length) = true := decide_eq_true (by omega)
         clear c16
         obtain ⟨ji17, hji17⟩ : ∃ j_ : Int, (IntKind.u64.wrap (wrap64 (7 * x7_1))) = j_ := ⟨_, rfl⟩
         replace H : (if 0 ≤ (ji17) then (if (rd t230 0) < 128 then (some (Go.bits .or .i64 x3_1 (shl .i64 (wrap64 (Go.bits .and .u8 (rd t230 0) 127)) (ji17)), t234, t237)) else (codec_Reader_Number.l0 kj4 (Go.bits .or .i64 x3_1 (shl .i64 (wrap64 (Go.bits .and .u8 (rd t230 0) 127)) (ji17))) (wrap64 (x7_1 + 1)) t234 t237)) else (none)) = some (r1, r2, r3) := by first | (rw [hji17] at H; exact H) | (simp only [hji17] at H ⊢; exact H)
         by_cases c18 : 0 ≤ (ji17)
         ·rw [if_pos c18] at H
          have c18b0 := eq_true c18
          have c18b1 : decide (0 ≤ (ji17)) = true := decide_eq_true c18
          clear c18
          obtain ⟨ji19, hji19⟩ : ∃ j_ : Int, (shl .i64 (wrap64 (Go.bits .and .u8 (rd t230 0) 127)) (ji17)) = j_ := ⟨_, rfl⟩
          replace H : (if (rd t230 0) < 128 then (some (Go.bits .or .i64 x3_1 (ji19), t234, t237)) else (codec_Reader_Number.l0 kj4 (Go.bits .or .i64 x3_1 (ji19)) (wrap64 (x7_1 + 1)) t234 t237)) = some (r1, r2, r3) := by first | (rw [hji19] at H; exact H) | (simp only [hji19] at H ⊢; exact H)
          have hji19_ : (IntKind.i64.wrap ((wrap64 (Go.bits .and .u8 (rd t230 0) 127)) * 2 ^ min (ji17).toNat 64)) = ji19 := hji19
          have hji19z : (ji17) ≤ 64 → (IntKind.i64.wrap ((wrap64 (Go.bits .and .u8 (rd t230 0) 127)) * 2 ^ (ji17).toNat)) = ji19 := shl_small hji19
          have hji19y : (wrap64 ((wrap64 (Go.bits .and .u8 (rd t230 0) 127)) * 2 ^ min (ji17).toNat 64)) = ji19 := (i64_w _).symm.trans hji19_
          have hji19x : (ji17) ≤ 64 → (wrap64 ((wrap64 (Go.bits .and .u8 (rd t230 0) 127)) * 2 ^ (ji17).toNat)) = ji19 := fun h_ => (i64_w _).symm.trans (hji19z h_)
          by_cases c20 : (rd t230 0) < 128
          ·rw [if_pos c20] at H
           have c20b0 : decide ((rd t230 0) < 128) = true := decide_eq_true c20
           clear c20
           simp only [Option.some.injEq, Prod.mk.injEq] at H
           obtain ⟨rfl, rfl, rfl⟩ := H
           obtain ⟨Ao21, co21, eo21⟩ := Kd.V_slice HO_5.out
           subst eo21
           have p243 : 0 ≤ (0 : Int) := (by omega)
           have q243 : 0 < (t230.length : Int) := of_decide_eq_true q6_11
           obtain ⟨ad243, e243, hx243_0⟩ := Kd.at_int (Kd.V_reads' HO_5.out).2.2 0 p243 q243
           cases e243
           have qi243 : (0 < t230.length) = True := eq_true (by omega)
           (try rw [show ((0 : Int)).toNat = 0 from rfl] at hx243_0)
           (try rw [Addr.add_zero'] at hx243_0)
           replace p243 := eq_true p243
           replace q243 := eq_true q243
           have p244 : 0 ≤ (0 : Int) := (by omega)
           have q244 : 0 < (t230.length : Int) := of_decide_eq_true q6_11
           obtain ⟨ad244, e244, hx244_0⟩ := Kd.at_int (Kd.V_reads' HO_5.out).2.2 0 p244 q244
           obtain rfl : ad243 = ad244 := (by injection e244)
           have qi244 : (0 < t230.length) = True := eq_true (by omega)
           (try rw [show ((0 : Int)).toNat = 0 from rfl] at hx244_0)
           (try rw [Addr.add_zero'] at hx244_0)
           replace p244 := eq_true p244
           replace q244 := eq_true q244
           go_wp2
           go_ret
           exact ⟨(v235), by first | rfl | (simp [errW_none, errW_some, ptrW_true, ptrW_false] <;> rfl) | (simp only [← hji17, ← hji19]; first | rfl | (simp [errW_none, errW_some, ptrW_true, ptrW_false] <;> rfl)) | (simp [*, errW_none, errW_some, ptrW_true, ptrW_false] <;> rfl), by (with_reducible repeat (first | apply Kd.V_alloc | apply Kd.V_drewN | apply Kd.V_drew)); exact Kd.V_mono HO_1000.out (fun _ hk => hk.1), q6_2, by repeat (first | (with_reducible first | exact HB.out | apply below_alloc | apply pw_below_drewN | apply below_drew1 | refine below_set ?_ GE0.out) | exact HB.out), by repeat (first | (with_reducible first | exact HK.out | apply Kept.alloc | apply Kept.drewN | apply Kept.drew | refine Kept.setCell ?_ (.inl (show g = g from rfl)) _) | exact HK.out)⟩
          ·rw [if_neg c20] at H
           have c20b0 : decide ((rd t230 0) < 128) = false := decide_eq_false c20
           clear c20
           have H' := A6_ H
           clear H
           obtain ⟨Ao22, co22, eo22⟩ := Kd.V_slice HO_5.out
           subst eo22
           have p243 : 0 ≤ (0 : Int) := (by omega)
           have q243 : 0 < (t230.length : Int) := of_decide_eq_true q6_11
           obtain ⟨ad243, e243, hx243_0⟩ := Kd.at_int (Kd.V_reads' HO_5.out).2.2 0 p243 q243
           cases e243
           have qi243 : (0 < t230.length) = True := eq_true (by omega)
           (try rw [show ((0 : Int)).toNat = 0 from rfl] at hx243_0)
           (try rw [Addr.add_zero'] at hx243_0)
           replace p243 := eq_true p243
           replace q243 := eq_true q243
           have p244 : 0 ≤ (0 : Int) := (by omega)
           have q244 : 0 < (t230.length : Int) := of_decide_eq_true q6_11
           obtain ⟨ad244, e244, hx244_0⟩ := Kd.at_int (Kd.V_reads' HO_5.out).2.2 0 p244 q244
           obtain rfl : ad243 = ad244 := (by injection e244)
           have qi244 : (0 < t230.length) = True := eq_true (by omega)
           (try rw [show ((0 : Int)).toNat = 0 from rfl] at hx244_0)
           (try rw [Addr.add_zero'] at hx244_0)
           replace p244 := eq_true p244
           replace q244 := eq_true q244
           go_wp2
           go_roundg kj4
           case measure => have := HK1.out; have := HJ4.out; omega
           case rel => exact ⟨(Go.bits .or .i64 x3_1 (ji19)), (wrap64 (x7_1 + 1)), (t234), (t237), (v235), (by first | rfl | (simp; done) | (simp only [← hji19] <;> (first | rfl | simp)) | (simp [*]; done)), q6_12, H', ⟨by have := HK1.out; have := HJ4.out; omega⟩, ⟨by (with_reducible repeat (first | apply Kd.V_alloc | apply Kd.V_drewN | apply Kd.V_drew)); exact HO_1000.out⟩, ⟨by (with_reducible repeat (first | refine blk_drewN ?_ _ | refine blk_drew ?_ | refine blk_alloc ?_ _)); exact BK0.out⟩, ⟨by repeat (first | (with_reducible first | exact HK.out | apply Kept.alloc | apply Kept.drewN | apply Kept.drew | refine Kept.setCell ?_ (.inl (show g = g from rfl)) _) | exact HK.out)⟩, ⟨by repeat (first | (with_reducible first | exact HB.out | apply below_alloc | apply pw_below_drewN | apply below_drew1 | refine below_set ?_ GE0.out) | exact HB.out)⟩⟩
         ·rw [if_neg c18] at H
          exact absurd H (by simp)
        ·rw [if_neg c16] at H
         exact absurd H (by simp)
    ·replace c4 := Bool.eq_false_iff.mpr c4
     subst c4
     have H1 : (some (0, t234, t237)) = some (r1, r2, r3) := by rw [if_neg (show ¬ (false = true) by decide)] at H; exact H
     clear H
     have H := H1
     clear H1
     simp only [Option.some.injEq, Prod.mk.injEq] at H
     obtain ⟨rfl, rfl, rfl⟩ := H
     obtain ⟨Ao23, co23, eo23⟩ := Kd.V_slice HO_1000.out
     subst eo23
     go_wp2_with (first | ((with_reducible refine gate_callee (f := 97) rfl ?_); refine goesL_ (some 12) rfl rfl Try.func97 q6_13 rfl #[.pointer (some ⟨g, 0, none⟩), .int .i64 1] rfl q6_6 ?_; (with_reducible refine (codec_Reader_take.calls g (fun k_ => ((P0_0_ k_ ∨ w.heap.size ≤ k_) ∧ k_ ≠ g)) Ao23 co23 x1000_1 x1001_1 1 t230 false t234 t237 w0 _ ?side2 ?side3 ?side1 ?side4 A3.out).mono ?_); (case side1 => repeat (first | (with_reducible first | exact HB.out | apply below_alloc | apply pw_below_drewN | apply below_drew1 | refine below_set ?_ GE0.out) | exact HB.out)); (case side2 => (with_reducible repeat (first | refine blk_drewN ?_ _ | refine blk_drew ?_ | refine blk_alloc ?_ _)); exact BK0.out); (case side3 => exact GE0.out); (case side4 => exact Kd.V_mono (HO_1000.out) (fun k_ hk_ => ⟨hk_, hk_.2⟩)); rintro e w24 ⟨v231, v235, rfl, ho0, ho1, hbx, hb, hkp⟩; refine ⟨_, rfl, ?_⟩; have n0_ := A6_ (Kd.V_mono (ok' := fun k_ => (P0_0_ k_ ∨ w.heap.size ≤ k_) ∧ k_ ≠ g) (Kd.V_keptB (HO_1000.out) hkp (fun k_ hk_ hs_ => (hk_.2) hs_)) (fun k_ hk_ => ⟨hk_.1.1, hk_.1.2⟩)); have n1_ := A6_ (hbx); have n2_ := A6_ (Kd.V_mono (ok' := fun k_ => (P0_0_ k_ ∨ w.heap.size ≤ k_) ∧ k_ ≠ g) ho0 (fun k_ hk_ => ⟨Or.elim hk_ (fun hs_ => hs_.1) (fun hn_ => (.inr (Nat.le_trans q6_7 hn_))), Or.elim hk_ (fun hs_ => hs_.2) (fun hn_ => (Kd.freshB (g := g) (o := .cells #[.slice Ao23 x1000_1.length co23, .int .i64 x1001_1] 104 (0, 0)) q6_2 k_ hn_))⟩)); have n3_ := A6_ (Kd.V_mono (ok' := fun k_ => (P0_0_ k_ ∨ w.heap.size ≤ k_) ∧ k_ ≠ g) ho1 (fun k_ hk_ => ⟨Or.elim hk_ (fun hs_ => hs_.1) (fun hn_ => (.inr (Nat.le_trans q6_7 hn_))), Or.elim hk_ (fun hs_ => hs_.2) (fun hn_ => (Kd.freshB (g := g) (o := .cells #[.slice Ao23 x1000_1.length co23, .int .i64 x1001_1] 104 (0, 0)) q6_2 k_ hn_))⟩)); have n4_ := A6_ (Kept.then_ (S := (fun k_ => k_ = g)) q6_8 hkp (fun k_ hs_ => (fun e_ => .inl e_) hs_)); have n5_ := A6_ (hb); clear HO_1000 BK0 HK HB; have HO_1000 := n0_; have BK0 := n1_; have HO232 := n2_; have HO236 := n3_; have HK := n4_; have HB := n5_; clear n0_ n1_ n2_ n3_ n4_ n5_; (try clear hbx); (try clear hbn); (try clear hgn); (try clear hb); (try clear hkp); (try clear ho0); (try clear ho1)))
     go_ret
     exact ⟨(v235), by first | rfl | (simp [errW_none, errW_some, ptrW_true, ptrW_false] <;> rfl) | (simp [*, errW_none, errW_some, ptrW_true, ptrW_false] <;> rfl), by (with_reducible repeat (first | apply Kd.V_alloc | apply Kd.V_drewN | apply Kd.V_drew)); exact Kd.V_mono HO236.out (fun _ hk => hk.1), q6_2, by repeat (first | (with_reducible first | exact HB.out | apply below_alloc | apply pw_below_drewN | apply below_drew1 | refine below_set ?_ GE0.out) | exact HB.out), by repeat (first | (with_reducible first | exact HK.out | apply Kept.alloc | apply Kept.drewN | apply Kept.drew | refine Kept.setCell ?_ (.inl (show g = g from rfl)) _) | exact HK.out)⟩
   ·rw [if_neg c2] at H
    have c2b0 : decide (x7_1 < 8) = false := decide_eq_false c2
    clear c2
    replace H := Option.bind_eq_some_iff.mp H
    obtain ⟨⟨t226, t229⟩, A250, H⟩ := H
    replace H : (some (0, t226, t229)) = some (r1, r2, r3) := H
    have A25 := A6_ A250
    clear A250
    simp only [Option.some.injEq, Prod.mk.injEq] at H
    obtain ⟨rfl, rfl, rfl⟩ := H
    obtain ⟨Ao26, co26, eo26⟩ := Kd.V_slice HO_1000.out
    subst eo26
    go_wp2_with (first | ((with_reducible refine gate_callee (f := 69) rfl ?_); refine goesL_ (some 47) rfl rfl Try.func69 q6_13 rfl #[.pointer (some ⟨g, 0, none⟩), .int .i64 5] rfl q6_6 ?_; (with_reducible refine (codec_Reader_Fail.calls g (fun k_ => ((P0_0_ k_ ∨ w.heap.size ≤ k_) ∧ k_ ≠ g)) Ao26 co26 x1000_1 x1001_1 5 t226 t229 w0 _ ?side2 ?side3 ?side1 ?side4 A25.out).mono ?_); (case side1 => repeat (first | (with_reducible first | exact HB.out | apply below_alloc | apply pw_below_drewN | apply below_drew1 | refine below_set ?_ GE0.out) | exact HB.out)); (case side2 => (with_reducible repeat (first | refine blk_drewN ?_ _ | refine blk_drew ?_ | refine blk_alloc ?_ _)); exact BK0.out); (case side3 => exact GE0.out); (case side4 => exact Kd.V_mono (HO_1000.out) (fun k_ hk_ => ⟨hk_, hk_.2⟩)); rintro e w27 ⟨v227, rfl, ho0, hbx, hb, hkp⟩; refine ⟨_, rfl, ?_⟩; have n0_ := A6_ (Kd.V_mono (ok' := fun k_ => (P0_0_ k_ ∨ w.heap.size ≤ k_) ∧ k_ ≠ g) (Kd.V_keptB (HO_1000.out) hkp (fun k_ hk_ hs_ => (hk_.2) hs_)) (fun k_ hk_ => ⟨hk_.1.1, hk_.1.2⟩)); have n1_ := A6_ (hbx); have n2_ := A6_ (Kd.V_mono (ok' := fun k_ => (P0_0_ k_ ∨ w.heap.size ≤ k_) ∧ k_ ≠ g) ho0 (fun k_ hk_ => ⟨Or.elim hk_ (fun hs_ => hs_.1) (fun hn_ => (.inr (Nat.le_trans q6_7 hn_))), Or.elim hk_ (fun hs_ => hs_.2) (fun hn_ => (Kd.freshB (g := g) (o := .cells #[.slice Ao26 x1000_1.length co26, .int .i64 x1001_1] 104 (0, 0)) q6_2 k_ hn_))⟩)); have n3_ := A6_ (Kept.then_ (S := (fun k_ => k_ = g)) q6_8 hkp (fun k_ hs_ => (fun e_ => .inl e_) hs_)); have n4_ := A6_ (hb); clear HO_1000 BK0 HK HB; have HO_1000 := n0_; have BK0 := n1_; have HO228 := n2_; have HK := n3_; have HB := n4_; clear n0_ n1_ n2_ n3_ n4_; (try clear hbx); (try clear hbn); (try clear hgn); (try clear hb); (try clear hkp); (try clear ho0)))
    go_ret
    exact ⟨(v227), by first | rfl | (simp [errW_none, errW_some, ptrW_true, ptrW_false] <;> rfl) | (simp [*, errW_none, errW_some, ptrW_true, ptrW_false] <;> rfl), by (with_reducible repeat (first | apply Kd.V_alloc | apply Kd.V_drewN | apply Kd.V_drew)); exact Kd.V_mono HO228.out (fun _ hk => hk.1), q6_2, by repeat (first | (with_reducible first | exact HB.out | apply below_alloc | apply pw_below_drewN | apply below_drew1 | refine below_set ?_ GE0.out) | exact HB.out), by repeat (first | (with_reducible first | exact HK.out | apply Kept.alloc | apply Kept.drewN | apply Kept.drew | refine Kept.setCell ?_ (.inl (show g = g from rfl)) _) | exact HK.out)⟩

/-! ### cell_run: function 68 -/
def cell_run.f (k : Nat) (l0_0 : List Int) (a0_1 : Int) : Option (Int × Int × Int × Int × Int × List Int × Int) := (codec_Reader_Number.f k l0_0 a0_1).bind fun bt246 => ((codec_Reader_Number.f k bt246.2.1 bt246.2.2).bind fun bt251 => ((codec_Reader_Number.f k bt251.2.1 bt251.2.2).bind fun bt256 => ((codec_Reader_Number.f k bt256.2.1 bt256.2.2).bind fun bt261 => ((codec_Reader_Number.f k bt261.2.1 bt261.2.2).bind fun bt266 => (if bt251.1 > 1114111 then (some (bt246.1, 0, bt256.1, bt261.1, bt266.1, bt266.2.1, bt266.2.2)) else (some (bt246.1, wrap32 (bt251.1), bt256.1, bt261.1, bt266.1, bt266.2.1, bt266.2.2)))))))
theorem cell_run.mono : ∀ a0 a1 k, LeO (cell_run.f k a0 a1) (cell_run.f (k + 1) a0 a1) := by
 intro a0 a1 k
 unfold cell_run.f
 repeat' first
   | (with_reducible exact codec_Reader_Number.mono _ _ _)
   | (with_reducible exact LeO.refl _)
   | (with_reducible exact LeO.none _)
   | (with_reducible refine LeO.ite ?_ ?_)
   | (with_reducible refine LeO.bind ?_ (fun _ => ?_))
   | exact codec_Reader_Number.mono _ _ _
   | exact LeO.none _
   | refine LeO.ite ?_ ?_
   | refine LeO.bind ?_ (fun _ => ?_)
set_option maxHeartbeats 8000000 in
set_option maxRecDepth 100000 in
theorem cell_run.calls (k : Nat) (g : Nat) (P0_0_ : Nat → Prop) (A0_0 : Option Addr) (c0_0 : Nat) (l0_0 : List Int) (a0_1 : Int) (r1 : Int) (r2 : Int) (r3 : Int) (r4 : Int) (r5 : Int) (r6 : List Int) (r7 : Int) (w0 w : World) (hb : w.heap[g]? = some (.cells #[.slice A0_0 l0_0.length c0_0, .int .i64 a0_1] 104 (0, 0))) (hg : w0.heap.size ≤ g) (hB : Below w0.heap.size w0 w) (hs0_0 : Kd.V (Kd.int .u8) 5 w w0.heap.size (fun k_ => P0_0_ k_ ∧ k_ ≠ g) (.slice A0_0 l0_0.length c0_0) l0_0) (h : cell_run.f k l0_0 a0_1 = some (r1, r2, r3, r4, r5, r6, r7)) :
  Calls Try.prog 68 #[.pointer (some ⟨g, 0, none⟩)] w fun e w' => ∃ v5_ : Value, Aside0 (e = .returned (.agg #[.int .i64 r1, .int .i32 r2, .int .i64 r3, .int .i64 r4, .int .i64 r5]) ∧ Kd.V (Kd.int .u8) 5 w' w0.heap.size (fun k_ => (P0_0_ k_ ∨ w.heap.size ≤ k_)) v5_ r6 ∧ w'.heap[g]? = some (.cells #[v5_, .int .i64 r7] 104 (0, 0)) ∧ Below w0.heap.size w0 w' ∧ Kept w w' (fun k_ => k_ = g)) := by
 have hu55 := Try.underlying55
 have hu51 := Try.underlying51
 have hu53 := Try.underlying53
 have HO0_0 := A6_ (show Kd.V (Kd.int .u8) 5 w w0.heap.size (fun k_ => (P0_0_ k_ ∨ w.heap.size ≤ k_) ∧ k_ ≠ g) (.slice A0_0 l0_0.length c0_0) l0_0 from Kd.V_mono hs0_0 (fun k_ hk => ⟨.inl hk.1, hk.2⟩))
 have HK := A6_ (Kept.refl w (fun k_ => k_ = g))
 have BK0 := A6_ hb
 have GE0 := A6_ hg
 clear hb hg
 have HW0 := A6_ hB.size
 have HB := A6_ hB
 clear hB
 have H : ((codec_Reader_Number.f k l0_0 a0_1).bind fun bt246 => ((codec_Reader_Number.f k bt246.2.1 bt246.2.2).bind fun bt251 => ((codec_Reader_Number.f k bt251.2.1 bt251.2.2).bind fun bt256 => ((codec_Reader_Number.f k bt256.2.1 bt256.2.2).bind fun bt261 => ((codec_Reader_Number.f k bt261.2.1 bt261.2.2).bind fun bt266 => (if bt251.1 > 1114111 then (some (bt246.1, 0, bt256.1, bt261.1, bt266.1, bt266.2.1, bt266.2.2)) else (some (bt246.1, wrap32 (bt251.1), bt256.1, bt261.1, bt266.1, bt266.2.1, bt266.2.2)))))))) = some (r1, r2, r3, r4, r5, r6, r7) := h
 clear h
 replace H := Option.bind_eq_some_iff.mp H
 obtain ⟨⟨t246, t247, t250⟩, A20, H⟩ := H
 replace H : ((codec_Reader_Number.f k t247 t250).bind fun bt251 => ((codec_Reader_Number.f k bt251.2.1 bt251.2.2).bind fun bt256 => ((codec_Reader_Number.f k bt256.2.1 bt256.2.2).bind fun bt261 => ((codec_Reader_Number.f k bt261.2.1 bt261.2.2).bind fun bt266 => (if bt251.1 > 1114111 then (some (t246, 0, bt256.1, bt261.1, bt266.1, bt266.2.1, bt266.2.2)) else (some (t246, wrap32 (bt251.1), bt256.1, bt261.1, bt266.1, bt266.2.1, bt266.2.2))))))) = some (r1, r2, r3, r4, r5, r6, r7) := H
 have A2 := A6_ A20
 clear A20
 replace H := Option.bind_eq_some_iff.mp H
 obtain ⟨⟨t251, t252, t255⟩, A30, H⟩ := H
 replace H : ((codec_Reader_Number.f k t252 t255).bind fun bt256 => ((codec_Reader_Number.f k bt256.2.1 bt256.2.2).bind fun bt261 => ((codec_Reader_Number.f k bt261.2.1 bt261.2.2).bind fun bt266 => (if t251 > 1114111 then (some (t246, 0, bt256.1, bt261.1, bt266.1, bt266.2.1, bt266.2.2)) else (some (t246, wrap32 (t251), bt256.1, bt261.1, bt266.1, bt266.2.1, bt266.2.2)))))) = some (r1, r2, r3, r4, r5, r6, r7) := H
 have A3 := A6_ A30
 clear A30
 replace H := Option.bind_eq_some_iff.mp H
 obtain ⟨⟨t256, t257, t260⟩, A40, H⟩ := H
 replace H : ((codec_Reader_Number.f k t257 t260).bind fun bt261 => ((codec_Reader_Number.f k bt261.2.1 bt261.2.2).bind fun bt266 => (if t251 > 1114111 then (some (t246, 0, t256, bt261.1, bt266.1, bt266.2.1, bt266.2.2)) else (some (t246, wrap32 (t251), t256, bt261.1, bt266.1, bt266.2.1, bt266.2.2))))) = some (r1, r2, r3, r4, r5, r6, r7) := H
 have A4 := A6_ A40
 clear A40
 replace H := Option.bind_eq_some_iff.mp H
 obtain ⟨⟨t261, t262, t265⟩, A50, H⟩ := H
 replace H : ((codec_Reader_Number.f k t262 t265).bind fun bt266 => (if t251 > 1114111 then (some (t246, 0, t256, t261, bt266.1, bt266.2.1, bt266.2.2)) else (some (t246, wrap32 (t251), t256, t261, bt266.1, bt266.2.1, bt266.2.2)))) = some (r1, r2, r3, r4, r5, r6, r7) := H
 have A5 := A6_ A50
 clear A50
 replace H := Option.bind_eq_some_iff.mp H
 obtain ⟨⟨t266, t267, t270⟩, A60, H⟩ := H
 replace H : (if t251 > 1114111 then (some (t246, 0, t256, t261, t266, t267, t270)) else (some (t246, wrap32 (t251), t256, t261, t266, t267, t270))) = some (r1, r2, r3, r4, r5, r6, r7) := H
 have A6 := A6_ A60
 clear A60
 by_cases c7 : t251 > 1114111
 ·rw [if_pos c7] at H
  have c7b0 : decide (1114111 < t251) = true := decide_eq_true c7
  clear c7
  simp only [Option.some.injEq, Prod.mk.injEq] at H
  obtain ⟨rfl, rfl, rfl, rfl, rfl, rfl, rfl⟩ := H
  go_enter Try.func68, Try.ntmps68
  go_wp2_with (first | ((with_reducible refine gate_dst (N := 2) rfl ?_); refine box_event ?hg (N := 2) ?hd (cs := #[.int .i64 0, .int .i32 0, .int .i64 0, .int .i64 0, .int .i64 0]) (t := 55) ?hr ?_; (case hd => rfl); (case hg => rfl); (case hr => first | (go_simp; done) | (go_simp; rfl)); intro gb245 hg w8 hbox hb; have n0_ := A6_ (Kd.V_below (Kd.V_elderB (by (with_reducible repeat (first | apply Kd.V_alloc | apply Kd.V_drewN | apply Kd.V_drew)); exact HO0_0.out) gb245 (Nat.le_of_eq hg.symm)) hb); have n1_ := A6_ (blk_below (g := g) (o := .cells #[.slice A0_0 l0_0.length c0_0, .int .i64 a0_1] 104 (0, 0)) q6_2 hb); have n2_ := A6_ (Kept.below (S := (fun k_ => k_ = g)) q6_8 hb); have n3_ := A6_ (below_step q6_10 hb); have n4_ := A6_ (hbox); have n5_ := A6_ ((by rw [hg]; exact q6_7 : w.heap.size ≤ gb245)); have n6_ := A6_ ((by rw [hg]; exact (below_size q6_10) : w0.heap.size ≤ gb245)); have n7_ := A6_ ((by rw [hg]; exact Nat.ne_of_lt (blk_lt (g := g) (o := .cells #[.slice A0_0 l0_0.length c0_0, .int .i64 a0_1] 104 (0, 0)) q6_2) : g ≠ gb245)); have n8_ := A6_ ((by rw [hg]; exact Nat.ne_of_gt (blk_lt (g := g) (o := .cells #[.slice A0_0 l0_0.length c0_0, .int .i64 a0_1] 104 (0, 0)) q6_2) : gb245 ≠ g)); clear HO0_0 BK0 HK HB; have HO0_0 := n0_; have BK0 := n1_; have HK := n2_; have HB := n3_; have BK245 := n4_; have GW245 := n5_; have GE245 := n6_; have NB0_245 := n7_; have NB245_0 := n8_; clear n0_ n1_ n2_ n3_ n4_ n5_ n6_ n7_ n8_; clear hb hbox hg) | ((with_reducible refine gate_callee (f := 92) rfl ?_); refine goesL_ (some 9) rfl rfl Try.func92 q6_13 rfl #[.pointer (some ⟨g, 0, none⟩)] rfl q6_6 ?_; (with_reducible refine (codec_Reader_Number.calls k g (fun k_ => (((P0_0_ k_ ∨ w.heap.size ≤ k_) ∧ k_ ≠ g) ∧ k_ ≠ gb245)) A0_0 c0_0 l0_0 a0_1 t246 t247 t250 w0 _ ?side2 ?side3 ?side1 ?side4 A2.out).mono ?_); (case side1 => repeat (first | (with_reducible first | exact HB.out | apply below_alloc | apply pw_below_drewN | apply below_drew1 | refine below_set ?_ GE0.out | refine below_set ?_ GE245.out) | exact HB.out)); (case side2 => (with_reducible repeat (first | refine blk_drewN ?_ _ | refine blk_drew ?_ | refine blk_alloc ?_ _)); exact BK0.out); (case side3 => exact GE0.out); (case side4 => exact Kd.V_mono (HO0_0.out) (fun k_ hk_ => ⟨hk_, hk_.1.2⟩)); rintro e w9 ⟨v248, rfl, ho0, hbx, hb, hkp⟩; refine ⟨_, rfl, ?_⟩; have n0_ := A6_ (hbx); have n1_ := A6_ (Kd.V_mono (ok' := fun k_ => (P0_0_ k_ ∨ w.heap.size ≤ k_) ∧ k_ ≠ g ∧ k_ ≠ gb245) (Kd.V_keptB (HO0_0.out) hkp (fun k_ hk_ hs_ => (hk_.1.2) hs_)) (fun k_ hk_ => ⟨hk_.1.1.1, hk_.1.1.2, hk_.1.2⟩)); have n2_ := A6_ (blk_kept q6_4 hkp (fun hs_ => (fun e_ => NB245_0.out e_) hs_)); have n3_ := A6_ (Kd.V_mono (ok' := fun k_ => (P0_0_ k_ ∨ w.heap.size ≤ k_) ∧ k_ ≠ g ∧ k_ ≠ gb245) ho0 (fun k_ hk_ => ⟨Or.elim hk_ (fun hs_ => hs_.1.1) (fun hn_ => (.inr (Nat.le_trans q6_3 hn_))), Or.elim hk_ (fun hs_ => hs_.1.2) (fun hn_ => (Kd.freshB (g := g) (o := .cells #[.slice A0_0 l0_0.length c0_0, .int .i64 a0_1] 104 (0, 0)) q6_2 k_ hn_)), Or.elim hk_ (fun hs_ => hs_.2) (fun hn_ => (Kd.freshB (g := gb245) (o := .cells #[.int .i64 0, .int .i32 0, .int .i64 0, .int .i64 0, .int .i64 0] 55 (0, 0)) q6_4 k_ hn_))⟩)); have n4_ := A6_ (Kept.then_ (S := (fun k_ => k_ = g)) q6_5 hkp (fun k_ hs_ => (fun e_ => .inl e_) hs_)); have n5_ := A6_ (hb); clear BK0 HO0_0 BK245 HK HB; have BK0 := n0_; have HO0_0 := n1_; have BK245 := n2_; have HO249 := n3_; have HK := n4_; have HB := n5_; clear n0_ n1_ n2_ n3_ n4_ n5_; (try clear hbx); (try clear hbn); (try clear hgn); (try clear hb); (try clear hkp); (try clear ho0); obtain ⟨Ao10, co10, eo10⟩ := Kd.V_slice HO249.out; subst eo10) | ((with_reducible refine gate_callee (f := 92) rfl ?_); refine goesL_ (some 11) rfl rfl Try.func92 q6_13 rfl #[.pointer (some ⟨g, 0, none⟩)] rfl q6_6 ?_; (with_reducible refine (codec_Reader_Number.calls k g (fun k_ => ((P0_0_ k_ ∨ w.heap.size ≤ k_) ∧ (k_ ≠ g ∧ k_ ≠ gb245))) Ao10 co10 t247 t250 t251 t252 t255 w0 _ ?side2 ?side3 ?side1 ?side4 A3.out).mono ?_); (case side1 => repeat (first | (with_reducible first | exact HB.out | apply below_alloc | apply pw_below_drewN | apply below_drew1 | refine below_set ?_ GE0.out | refine below_set ?_ GE245.out) | exact HB.out)); (case side2 => (with_reducible repeat (first | refine blk_drewN ?_ _ | refine blk_drew ?_ | refine blk_alloc ?_ _)); exact BK0.out); (case side3 => exact GE0.out); (case side4 => exact Kd.V_mono (HO249.out) (fun k_ hk_ => ⟨hk_, hk_.2.1⟩)); rintro e w11 ⟨v253, rfl, ho0, hbx, hb, hkp⟩; refine ⟨_, rfl, ?_⟩; have n0_ := A6_ (hbx); have n1_ := A6_ (Kd.V_mono (ok' := fun k_ => (P0_0_ k_ ∨ w.heap.size ≤ k_) ∧ k_ ≠ g ∧ k_ ≠ gb245) (Kd.V_keptB (HO0_0.out) hkp (fun k_ hk_ hs_ => (hk_.2.1) hs_)) (fun k_ hk_ => ⟨hk_.1.1, hk_.1.2.1, hk_.1.2.2⟩)); have n2_ := A6_ (blk_kept q6_4 hkp (fun hs_ => (fun e_ => NB245_0.out e_) hs_)); have n3_ := A6_ (Kd.V_mono (ok' := fun k_ => (P0_0_ k_ ∨ w.heap.size ≤ k_) ∧ k_ ≠ g ∧ k_ ≠ gb245) (Kd.V_keptB (HO249.out) hkp (fun k_ hk_ hs_ => (hk_.2.1) hs_)) (fun k_ hk_ => ⟨hk_.1.1, hk_.1.2.1, hk_.1.2.2⟩)); have n4_ := A6_ (Kd.V_mono (ok' := fun k_ => (P0_0_ k_ ∨ w.heap.size ≤ k_) ∧ k_ ≠ g ∧ k_ ≠ gb245) ho0 (fun k_ hk_ => ⟨Or.elim hk_ (fun hs_ => hs_.1) (fun hn_ => (.inr (Nat.le_trans q6_3 hn_))), Or.elim hk_ (fun hs_ => hs_.2.1) (fun hn_ => (Kd.freshB (g := g) (o := .cells #[.slice Ao10 t247.length co10, .int .i64 t250] 104 (0, 0)) q6_2 k_ hn_)), Or.elim hk_ (fun hs_ => hs_.2.2) (fun hn_ => (Kd.freshB (g := gb245) (o := .cells #[.int .i64 0, .int .i32 0, .int .i64 0, .int .i64 0, .int .i64 0] 55 (0, 0)) q6_4 k_ hn_))⟩)); have n5_ := A6_ (Kept.then_ (S := (fun k_ => k_ = g)) q6_5 hkp (fun k_ hs_ => (fun e_ => .inl e_) hs_)); have n6_ := A6_ (hb); clear BK0 HO0_0 BK245 HO249 HK HB; have BK0 := n0_; have HO0_0 := n1_; have BK245 := n2_; have HO249 := n3_; have HO254 := n4_; have HK := n5_; have HB := n6_; clear n0_ n1_ n2_ n3_ n4_ n5_ n6_; (try clear hbx); (try clear hbn); (try clear hgn); (try clear hb); (try clear hkp); (try clear ho0); obtain ⟨Ao12, co12, eo12⟩ := Kd.V_slice HO254.out; subst eo12) | ((with_reducible refine gate_callee (f := 92) rfl ?_); refine goesL_ (some 13) rfl rfl Try.func92 q6_13 rfl #[.pointer (some ⟨g, 0, none⟩)] rfl q6_6 ?_; (with_reducible refine (codec_Reader_Number.calls k g (fun k_ => ((P0_0_ k_ ∨ w.heap.size ≤ k_) ∧ (k_ ≠ g ∧ k_ ≠ gb245))) Ao12 co12 t252 t255 t256 t257 t260 w0 _ ?side2 ?side3 ?side1 ?side4 A4.out).mono ?_); (case side1 => repeat (first | (with_reducible first | exact HB.out | apply below_alloc | apply pw_below_drewN | apply below_drew1 | refine below_set ?_ GE0.out | refine below_set ?_ GE245.out) | exact HB.out)); (case side2 => (with_reducible repeat (first | refine blk_drewN ?_ _ | refine blk_drew ?_ | refine blk_alloc ?_ _)); exact BK0.out); (case side3 => exact GE0.out); (case side4 => exact Kd.V_mono (HO254.out) (fun k_ hk_ => ⟨hk_, hk_.2.1⟩)); rintro e w13 ⟨v258, rfl, ho0, hbx, hb, hkp⟩; refine ⟨_, rfl, ?_⟩; have n0_ := A6_ (hbx); have n1_ := A6_ (Kd.V_mono (ok' := fun k_ => (P0_0_ k_ ∨ w.heap.size ≤ k_) ∧ k_ ≠ g ∧ k_ ≠ gb245) (Kd.V_keptB (HO0_0.out) hkp (fun k_ hk_ hs_ => (hk_.2.1) hs_)) (fun k_ hk_ => ⟨hk_.1.1, hk_.1.2.1, hk_.1.2.2⟩)); have n2_ := A6_ (blk_kept q6_4 hkp (fun hs_ => (fun e_ => NB245_0.out e_) hs_)); have n3_ := A6_ (Kd.V_mono (ok' := fun k_ => (P0_0_ k_ ∨ w.heap.size ≤ k_) ∧ k_ ≠ g ∧ k_ ≠ gb245) (Kd.V_keptB (HO249.out) hkp (fun k_ hk_ hs_ => (hk_.2.1) hs_)) (fun k_ hk_ => ⟨hk_.1.1, hk_.1.2.1, hk_.1.2.2⟩)); have n4_ := A6_ (Kd.V_mono (ok' := fun k_ => (P0_0_ k_ ∨ w.heap.size ≤ k_) ∧ k_ ≠ g ∧ k_ ≠ gb245) (Kd.V_keptB (HO254.out) hkp (fun k_ hk_ hs_ => (hk_.2.1) hs_)) (fun k_ hk_ => ⟨hk_.1.1, hk_.1.2.1, hk_.1.2.2⟩)); have n5_ := A6_ (Kd.V_mono (ok' := fun k_ => (P0_0_ k_ ∨ w.heap.size ≤ k_) ∧ k_ ≠ g ∧ k_ ≠ gb245) ho0 (fun k_ hk_ => ⟨Or.elim hk_ (fun hs_ => hs_.1) (fun hn_ => (.inr (Nat.le_trans q6_3 hn_))), Or.elim hk_ (fun hs_ => hs_.2.1) (fun hn_ => (Kd.freshB (g := g) (o := .cells #[.slice Ao12 t252.length co12, .int .i64 t255] 104 (0, 0)) q6_2 k_ hn_)), Or.elim hk_ (fun hs_ => hs_.2.2) (fun hn_ => (Kd.freshB (g := gb245) (o := .cells #[.int .i64 0, .int .i32 0, .int .i64 0, .int .i64 0, .int .i64 0] 55 (0, 0)) q6_4 k_ hn_))⟩)); have n6_ := A6_ (Kept.then_ (S := (fun k_ => k_ = g)) q6_5 hkp (fun k_ hs_ => (fun e_ => .inl e_) hs_)); have n7_ := A6_ (hb); clear BK0 HO0_0 BK245 HO249 HO254 HK HB; have BK0 := n0_; have HO0_0 := n1_; have BK245 := n2_; have HO249 := n3_; have HO254 := n4_; have HO259 := n5_; have HK := n6_; have HB := n7_; clear n0_ n1_ n2_ n3_ n4_ n5_ n6_ n7_; (try clear hbx); (try clear hbn); (try clear hgn); (try clear hb); (try clear hkp); (try clear ho0); obtain ⟨Ao14, co14, eo14⟩ := Kd.V_slice HO259.out; subst eo14) | ((with_reducible refine gate_callee (f := 92) rfl ?_); refine goesL_ (some 15) rfl rfl Try.func92 q6_13 rfl #[.pointer (some ⟨g, 0, none⟩)] rfl q6_6 ?_; (with_reducible refine (codec_Reader_Number.calls k g (fun k_ => ((P0_0_ k_ ∨ w.heap.size ≤ k_) ∧ (k_ ≠ g ∧ k_ ≠ gb245))) Ao14 co14 t257 t260 t261 t262 t265 w0 _ ?side2 ?side3 ?side1 ?side4 A5.out).mono ?_); (case side1 => repeat (first | (with_reducible first | exact HB.out | apply below_alloc | apply pw_below_drewN | apply below_drew1 | refine below_set ?_ GE0.out | refine below_set ?_ GE245.out) | exact HB.out)); (case side2 => (with_reducible repeat (first | refine blk_drewN ?_ _ | refine blk_drew ?_ | refine blk_alloc ?_ _)); exact BK0.out); (case side3 => exact GE0.out); (case side4 => exact Kd.V_mono (HO259.out) (fun k_ hk_ => ⟨hk_, hk_.2.1⟩)); rintro e w15 ⟨v263, rfl, ho0, hbx, hb, hkp⟩; refine ⟨_, rfl, ?_⟩; have n0_ := A6_ (hbx); have n1_ := A6_ (Kd.V_mono (ok' := fun k_ => (P0_0_ k_ ∨ w.heap.size ≤ k_) ∧ k_ ≠ g ∧ k_ ≠ gb245) (Kd.V_keptB (HO0_0.out) hkp (fun k_ hk_ hs_ => (hk_.2.1) hs_)) (fun k_ hk_ => ⟨hk_.1.1, hk_.1.2.1, hk_.1.2.2⟩)); have n2_ := A6_ (blk_kept q6_4 hkp (fun hs_ => (fun e_ => NB245_0.out e_) hs_)); have n3_ := A6_ (Kd.V_mono (ok' := fun k_ => (P0_0_ k_ ∨ w.heap.size ≤ k_) ∧ k_ ≠ g ∧ k_ ≠ gb245) (Kd.V_keptB (HO249.out) hkp (fun k_ hk_ hs_ => (hk_.2.1) hs_)) (fun k_ hk_ => ⟨hk_.1.1, hk_.1.2.1, hk_.1.2.2⟩)); have n4_ := A6_ (Kd.V_mono (ok' := fun k_ => (P0_0_ k_ ∨ w.heap.size ≤ k_) ∧ k_ ≠ g ∧ k_ ≠ gb245) (Kd.V_keptB (HO254.out) hkp (fun k_ hk_ hs_ => (hk_.2.1) hs_)) (fun k_ hk_ => ⟨hk_.1.1, hk_.1.2.1, hk_.1.2.2⟩)); have n5_ := A6_ (Kd.V_mono (ok' := fun k_ => (P0_0_ k_ ∨ w.heap.size ≤ k_) ∧ k_ ≠ g ∧ k_ ≠ gb245) (Kd.V_keptB (HO259.out) hkp (fun k_ hk_ hs_ => (hk_.2.1) hs_)) (fun k_ hk_ => ⟨hk_.1.1, hk_.1.2.1, hk_.1.2.2⟩)); have n6_ := A6_ (Kd.V_mono (ok' := fun k_ => (P0_0_ k_ ∨ w.heap.size ≤ k_) ∧ k_ ≠ g ∧ k_ ≠ gb245) ho0 (fun k_ hk_ => ⟨Or.elim hk_ (fun hs_ => hs_.1) (fun hn_ => (.inr (Nat.le_trans q6_3 hn_))), Or.elim hk_ (fun hs_ => hs_.2.1) (fun hn_ => (Kd.freshB (g := g) (o := .cells #[.slice Ao14 t257.length co14, .int .i64 t260] 104 (0, 0)) q6_2 k_ hn_)), Or.elim hk_ (fun hs_ => hs_.2.2) (fun hn_ => (Kd.freshB (g := gb245) (o := .cells #[.int .i64 0, .int .i32 0, .int .i64 0, .int .i64 0, .int .i64 0] 55 (0, 0)) q6_4 k_ hn_))⟩)); have n7_ := A6_ (Kept.then_ (S := (fun k_ => k_ = g)) q6_5 hkp (fun k_ hs_ => (fun e_ => .inl e_) hs_)); have n8_ := A6_ (hb); clear BK0 HO0_0 BK245 HO249 HO254 HO259 HK HB; have BK0 := n0_; have HO0_0 := n1_; have BK245 := n2_; have HO249 := n3_; have HO254 := n4_; have HO259 := n5_; have HO264 := n6_; have HK := n7_; have HB := n8_; clear n0_ n1_ n2_ n3_ n4_ n5_ n6_ n7_ n8_; (try clear hbx); (try clear hbn); (try clear hgn); (try clear hb); (try clear hkp); (try clear ho0); obtain ⟨Ao16, co16, eo16⟩ := Kd.V_slice HO264.out; subst eo16) | ((with_reducible refine gate_callee (f := 92) rfl ?_); refine goesL_ (some 17) rfl rfl Try.func92 q6_13 rfl #[.pointer (some ⟨g, 0, none⟩)] rfl q6_6 ?_; (with_reducible refine (codec_Reader_Number.calls k g (fun k_ => ((P0_0_ k_ ∨ w.heap.size ≤ k_) ∧ (k_ ≠ g ∧ k_ ≠ gb245))) Ao16 co16 t262 t265 t266 t267 t270 w0 _ ?side2 ?side3 ?side1 ?side4 A6.out).mono ?_); (case side1 => repeat (first | (with_reducible first | exact HB.out | apply below_alloc | apply pw_below_drewN | apply below_drew1 | refine below_set ?_ GE0.out | refine below_set ?_ GE245.out) | exact HB.out)); (case side2 => (with_reducible repeat (first | refine blk_drewN ?_ _ | refine blk_drew ?_ | refine blk_alloc ?_ _)); exact BK0.out); (case side3 => exact GE0.out); (case side4 => exact Kd.V_mono (HO264.out) (fun k_ hk_ => ⟨hk_, hk_.2.1⟩)); rintro e w17 ⟨v268, rfl, ho0, hbx, hb, hkp⟩; refine ⟨_, rfl, ?_⟩; have n0_ := A6_ (hbx); have n1_ := A6_ (Kd.V_mono (ok' := fun k_ => (P0_0_ k_ ∨ w.heap.size ≤ k_) ∧ k_ ≠ g ∧ k_ ≠ gb245) (Kd.V_keptB (HO0_0.out) hkp (fun k_ hk_ hs_ => (hk_.2.1) hs_)) (fun k_ hk_ => ⟨hk_.1.1, hk_.1.2.1, hk_.1.2.2⟩)); have n2_ := A6_ (blk_kept q6_4 hkp (fun hs_ => (fun e_ => NB245_0.out e_) hs_)); have n3_ := A6_ (Kd.V_mono (ok' := fun k_ => (P0_0_ k_ ∨ w.heap.size ≤ k_) ∧ k_ ≠ g ∧ k_ ≠ gb245) (Kd.V_keptB (HO249.out) hkp (fun k_ hk_ hs_ => (hk_.2.1) hs_)) (fun k_ hk_ => ⟨hk_.1.1, hk_.1.2.1, hk_.1.2.2⟩)); have n4_ := A6_ (Kd.V_mono (ok' := fun k_ => (P0_0_ k_ ∨ w.heap.size ≤ k_) ∧ k_ ≠ g ∧ k_ ≠ gb245) (Kd.V_keptB (HO254.out) hkp (fun k_ hk_ hs_ => (hk_.2.1) hs_)) (fun k_ hk_ => ⟨hk_.1.1, hk_.1.2.1, hk_.1.2.2⟩)); have n5_ := A6_ (Kd.V_mono (ok' := fun k_ => (P0_0_ k_ ∨ w.heap.size ≤ k_) ∧ k_ ≠ g ∧ k_ ≠ gb245) (Kd.V_keptB (HO259.out) hkp (fun k_ hk_ hs_ => (hk_.2.1) hs_)) (fun k_ hk_ => ⟨hk_.1.1, hk_.1.2.1, hk_.1.2.2⟩)); have n6_ := A6_ (Kd.V_mono (ok' := fun k_ => (P0_0_ k_ ∨ w.heap.size ≤ k_) ∧ k_ ≠ g ∧ k_ ≠ gb245) (Kd.V_keptB (HO264.out) hkp (fun k_ hk_ hs_ => (hk_.2.1) hs_)) (fun k_ hk_ => ⟨hk_.1.1, hk_.1.2.1, hk_.1.2.2⟩)); have n7_ := A6_ (Kd.V_mono (ok' := fun k_ => (P0_0_ k_ ∨ w.heap.size ≤ k_) ∧ k_ ≠ g ∧ k_ ≠ gb245) ho0 (fun k_ hk_ => ⟨Or.elim hk_ (fun hs_ => hs_.1) (fun hn_ => (.inr (Nat.le_trans q6_3 hn_))), Or.elim hk_ (fun hs_ => hs_.2.1) (fun hn_ => (Kd.freshB (g := g) (o := .cells #[.slice Ao16 t262.length co16, .int .i64 t265] 104 (0, 0)) q6_2 k_ hn_)), Or.elim hk_ (fun hs_ => hs_.2.2) (fun hn_ => (Kd.freshB (g := gb245) (o := .cells #[.int .i64 0, .int .i32 0, .int .i64 0, .int .i64 0, .int .i64 0] 55 (0, 0)) q6_4 k_ hn_))⟩)); have n8_ := A6_ (Kept.then_ (S := (fun k_ => k_ = g)) q6_5 hkp (fun k_ hs_ => (fun e_ => .inl e_) hs_)); have n9_ := A6_ (hb); clear BK0 HO0_0 BK245 HO249 HO254 HO259 HO264 HK HB; have BK0 := n0_; have HO0_0 := n1_; have BK245 := n2_; have HO249 := n3_; have HO254 := n4_; have HO259 := n5_; have HO264 := n6_; have HO269 := n7_; have HK := n8_; have HB := n9_; clear n0_ n1_ n2_ n3_ n4_ n5_ n6_ n7_ n8_ n9_; (try clear hbx); (try clear hbn); (try clear hgn); (try clear hb); (try clear hkp); (try clear ho0); have hnb18 := NB245_0.out; have hnc18 := NB0_245.out; have hcz19_0 : w17.cell? ⟨gb245, 0, none⟩ = some (.int .i64 0) := (blk_cell BK245.out 0).trans rfl; have hcz19_1 : w17.cell? ⟨gb245, 1, none⟩ = some (.int .i32 0) := (blk_cell BK245.out 1).trans rfl; have hcz19_2 : w17.cell? ⟨gb245, 2, none⟩ = some (.int .i64 0) := (blk_cell BK245.out 2).trans rfl; have hcz19_3 : w17.cell? ⟨gb245, 3, none⟩ = some (.int .i64 0) := (blk_cell BK245.out 3).trans rfl; have hcz19_4 : w17.cell? ⟨gb245, 4, none⟩ = some (.int .i64 0) := (blk_cell BK245.out 4).trans rfl; have hfz19_0 := blk_frozen BK245.out 0; have hfz19_1 := blk_frozen BK245.out 1; have hfz19_2 := blk_frozen BK245.out 2; have hfz19_3 := blk_frozen BK245.out 3; have hfz19_4 := blk_frozen BK245.out 4))
  refine bodyPost_ret (results_cell_row rfl _ _ gb245 55 #[.int .i64 t246, .int .i32 0, .int .i64 t256, .int .i64 t261, .int .i64 t266] (0, 0) _ rfl (by (with_reducible repeat (first | refine blk_drewN ?_ _ | refine blk_drew ?_ | refine blk_alloc ?_ _)); refine blk_put (cs := #[.int .i64 t246, .int .i32 0, .int .i64 t256, .int .i64 t261, .int .i64 0]) ?_ 4 _ rfl; (with_reducible repeat (first | refine blk_drewN ?_ _ | refine blk_drew ?_ | refine blk_alloc ?_ _)); refine blk_put (cs := #[.int .i64 t246, .int .i32 0, .int .i64 t256, .int .i64 0, .int .i64 0]) ?_ 3 _ rfl; (with_reducible repeat (first | refine blk_drewN ?_ _ | refine blk_drew ?_ | refine blk_alloc ?_ _)); refine blk_put (cs := #[.int .i64 t246, .int .i32 0, .int .i64 0, .int .i64 0, .int .i64 0]) ?_ 2 _ rfl; (with_reducible repeat (first | refine blk_drewN ?_ _ | refine blk_drew ?_ | refine blk_alloc ?_ _)); refine blk_put (cs := #[.int .i64 t246, .int .i32 0, .int .i64 0, .int .i64 0, .int .i64 0]) ?_ 1 _ rfl; (with_reducible repeat (first | refine blk_drewN ?_ _ | refine blk_drew ?_ | refine blk_alloc ?_ _)); refine blk_put (cs := #[.int .i64 0, .int .i32 0, .int .i64 0, .int .i64 0, .int .i64 0]) ?_ 0 _ rfl; (with_reducible repeat (first | refine blk_drewN ?_ _ | refine blk_drew ?_ | refine blk_alloc ?_ _)); exact BK245.out) Try.underlying55 rfl q6_13) rfl ?_
  exact ⟨(v268), by first | rfl | (simp [errW_none, errW_some, ptrW_true, ptrW_false] <;> rfl) | (simp [*, errW_none, errW_some, ptrW_true, ptrW_false] <;> rfl), by (with_reducible repeat (first | apply Kd.V_alloc | apply Kd.V_drewN | apply Kd.V_drew)); exact Kd.V_mono (Kd.V_far (p := ⟨gb245, 4, none⟩) (Kd.V_far (p := ⟨gb245, 3, none⟩) (Kd.V_far (p := ⟨gb245, 2, none⟩) (Kd.V_far (p := ⟨gb245, 1, none⟩) (Kd.V_far (p := ⟨gb245, 0, none⟩) (Kd.V_mono HO269.out (fun k_ hk => (⟨hk, hk.2.2⟩ : _ ∧ k_ ≠ gb245))) (fun _ hk => hk.2) (.int .i64 t246)) (fun _ hk => hk.2) (.int .i32 0)) (fun _ hk => hk.2) (.int .i64 t256)) (fun _ hk => hk.2) (.int .i64 t261)) (fun _ hk => hk.2) (.int .i64 t266)) (fun _ hk => hk.1.1), q6_9, by repeat (first | (with_reducible first | exact HB.out | apply below_alloc | apply pw_below_drewN | apply below_drew1 | refine below_set ?_ GE0.out | refine below_set ?_ GE245.out) | exact HB.out), by repeat (first | (with_reducible first | exact HK.out | apply Kept.alloc | apply Kept.drewN | apply Kept.drew | refine Kept.setCell ?_ (.inl (show g = g from rfl)) _ | refine Kept.setCell ?_ (.inr GW245.out) _) | exact HK.out)⟩
 ·rw [if_neg c7] at H
  have c7b0 : decide (1114111 < t251) = false := decide_eq_false c7
  clear c7
  simp only [Option.some.injEq, Prod.mk.injEq] at H
  obtain ⟨rfl, rfl, rfl, rfl, rfl, rfl, rfl⟩ := H
  go_enter Try.func68, Try.ntmps68
  go_wp2_with (first | ((with_reducible refine gate_dst (N := 2) rfl ?_); refine box_event ?hg (N := 2) ?hd (cs := #[.int .i64 0, .int .i32 0, .int .i64 0, .int .i64 0, .int .i64 0]) (t := 55) ?hr ?_; (case hd => rfl); (case hg => rfl); (case hr => first | (go_simp; done) | (go_simp; rfl)); intro gb245 hg w20 hbox hb; have n0_ := A6_ (Kd.V_below (Kd.V_elderB (by (with_reducible repeat (first | apply Kd.V_alloc | apply Kd.V_drewN | apply Kd.V_drew)); exact HO0_0.out) gb245 (Nat.le_of_eq hg.symm)) hb); have n1_ := A6_ (blk_below (g := g) (o := .cells #[.slice A0_0 l0_0.length c0_0, .int .i64 a0_1] 104 (0, 0)) q6_2 hb); have n2_ := A6_ (Kept.below (S := (fun k_ => k_ = g)) q6_8 hb); have n3_ := A6_ (below_step q6_10 hb); have n4_ := A6_ (hbox); have n5_ := A6_ ((by rw [hg]; exact q6_7 : w.heap.size ≤ gb245)); have n6_ := A6_ ((by rw [hg]; exact (below_size q6_10) : w0.heap.size ≤ gb245)); have n7_ := A6_ ((by rw [hg]; exact Nat.ne_of_lt (blk_lt (g := g) (o := .cells #[.slice A0_0 l0_0.length c0_0, .int .i64 a0_1] 104 (0, 0)) q6_2) : g ≠ gb245)); have n8_ := A6_ ((by rw [hg]; exact Nat.ne_of_gt (blk_lt (g := g) (o := .cells #[.slice A0_0 l0_0.length c0_0, .int .i64 a0_1] 104 (0, 0)) q6_2) : gb245 ≠ g)); clear HO0_0 BK0 HK HB; have HO0_0 := n0_; have BK0 := n1_; have HK := n2_; have HB := n3_; have BK245 := n4_; have GW245 := n5_; have GE245 := n6_; have NB0_245 := n7_; have NB245_0 := n8_; clear n0_ n1_ n2_ n3_ n4_ n5_ n6_ n7_ n8_; clear hb hbox hg) | ((with_reducible refine gate_callee (f := 92) rfl ?_); refine goesL_ (some 9) rfl rfl Try.func92 q6_13 rfl #[.pointer (some ⟨g, 0, none⟩)] rfl q6_6 ?_; (with_reducible refine (codec_Reader_Number.calls k g (fun k_ => (((P0_0_ k_ ∨ w.heap.size ≤ k_) ∧ k_ ≠ g) ∧ k_ ≠ gb245)) A0_0 c0_0 l0_0 a0_1 t246 t247 t250 w0 _ ?side2 ?side3 ?side1 ?side4 A2.out).mono ?_); (case side1 => repeat (first | (with_reducible first | exact HB.out | apply below_alloc | apply pw_below_drewN | apply below_drew1 | refine below_set ?_ GE0.out | refine below_set ?_ GE245.out) | exact HB.out)); (case side2 => (with_reducible repeat (first | refine blk_drewN ?_ _ | refine blk_drew ?_ | refine blk_alloc ?_ _)); exact BK0.out); (case side3 => exact GE0.out); (case side4 => exact Kd.V_mono (HO0_0.out) (fun k_ hk_ => ⟨hk_, hk_.1.2⟩)); rintro e w21 ⟨v248, rfl, ho0, hbx, hb, hkp⟩; refine ⟨_, rfl, ?_⟩; have n0_ := A6_ (hbx); have n1_ := A6_ (Kd.V_mono (ok' := fun k_ => (P0_0_ k_ ∨ w.heap.size ≤ k_) ∧ k_ ≠ g ∧ k_ ≠ gb245) (Kd.V_keptB (HO0_0.out) hkp (fun k_ hk_ hs_ => (hk_.1.2) hs_)) (fun k_ hk_ => ⟨hk_.1.1.1, hk_.1.1.2, hk_.1.2⟩)); have n2_ := A6_ (blk_kept q6_4 hkp (fun hs_ => (fun e_ => NB245_0.out e_) hs_)); have n3_ := A6_ (Kd.V_mono (ok' := fun k_ => (P0_0_ k_ ∨ w.heap.size ≤ k_) ∧ k_ ≠ g ∧ k_ ≠ gb245) ho0 (fun k_ hk_ => ⟨Or.elim hk_ (fun hs_ => hs_.1.1) (fun hn_ => (.inr (Nat.le_trans q6_3 hn_))), Or.elim hk_ (fun hs_ => hs_.1.2) (fun hn_ => (Kd.freshB (g := g) (o := .cells #[.slice A0_0 l0_0.length c0_0, .int .i64 a0_1] 104 (0, 0)) q6_2 k_ hn_)), Or.elim hk_ (fun hs_ => hs_.2) (fun hn_ => (Kd.freshB (g := gb245) (o := .cells #[.int .i64 0, .int .i32 0, .int .i64 0, .int .i64 0, .int .i64 0] 55 (0, 0)) q6_4 k_ hn_))⟩)); have n4_ := A6_ (Kept.then_ (S := (fun k_ => k_ = g)) q6_5 hkp (fun k_ hs_ => (fun e_ => .inl e_) hs_)); have n5_ := A6_ (hb); clear BK0 HO0_0 BK245 HK HB; have BK0 := n0_; have HO0_0 := n1_; have BK245 := n2_; have HO249 := n3_; have HK := n4_; have HB := n5_; clear n0_ n1_ n2_ n3_ n4_ n5_; (try clear hbx); (try clear hbn); (try clear hgn); (try clear hb); (try clear hkp); (try clear ho0); obtain ⟨Ao22, co22, eo22⟩ := Kd.V_slice HO249.out; subst eo22) | ((with_reducible refine gate_callee (f := 92) rfl ?_); refine goesL_ (some 11) rfl rfl Try.func92 q6_13 rfl #[.pointer (some ⟨g, 0, none⟩)] rfl q6_6 ?_; (with_reducible refine (codec_Reader_Number.calls k g (fun k_ => ((P0_0_ k_ ∨ w.heap.size ≤ k_) ∧ (k_ ≠ g ∧ k_ ≠ gb245))) Ao22 co22 t247 t250 t251 t252 t255 w0 _ ?side2 ?side3 ?side1 ?side4 A3.out).mono ?_); (case side1 => repeat (first | (with_reducible first | exact HB.out | apply below_alloc | apply pw_below_drewN | apply below_drew1 | refine below_set ?_ GE0.out | refine below_set ?_ GE245.out) | exact HB.out)); (case side2 => (with_reducible repeat (first | refine blk_drewN ?_ _ | refine blk_drew ?_ | refine blk_alloc ?_ _)); exact BK0.out); (case side3 => exact GE0.out); (case side4 => exact Kd.V_mono (HO249.out) (fun k_ hk_ => ⟨hk_, hk_.2.1⟩)); rintro e w23 ⟨v253, rfl, ho0, hbx, hb, hkp⟩; refine ⟨_, rfl, ?_⟩; have n0_ := A6_ (hbx); have n1_ := A6_ (Kd.V_mono (ok' := fun k_ => (P0_0_ k_ ∨ w.heap.size ≤ k_) ∧ k_ ≠ g ∧ k_ ≠ gb245) (Kd.V_keptB (HO0_0.out) hkp (fun k_ hk_ hs_ => (hk_.2.1) hs_)) (fun k_ hk_ => ⟨hk_.1.1, hk_.1.2.1, hk_.1.2.2⟩)); have n2_ := A6_ (blk_kept q6_4 hkp (fun hs_ => (fun e_ => NB245_0.out e_) hs_)); have n3_ := A6_ (Kd.V_mono (ok' := fun k_ => (P0_0_ k_ ∨ w.heap.size ≤ k_) ∧ k_ ≠ g ∧ k_ ≠ gb245) (Kd.V_keptB (HO249.out) hkp (fun k_ hk_ hs_ => (hk_.2.1) hs_)) (fun k_ hk_ => ⟨hk_.1.1, hk_.1.2.1, hk_.1.2.2⟩)); have n4_ := A6_ (Kd.V_mono (ok' := fun k_ => (P0_0_ k_ ∨ w.heap.size ≤ k_) ∧ k_ ≠ g ∧ k_ ≠ gb245) ho0 (fun k_ hk_ => ⟨Or.elim hk_ (fun hs_ => hs_.1) (fun hn_ => (.inr (Nat.le_trans q6_3 hn_))), Or.elim hk_ (fun hs_ => hs_.2.1) (fun hn_ => (Kd.freshB (g := g) (o := .cells #[.slice Ao22 t247.length co22, .int .i64 t250] 104 (0, 0)) q6_2 k_ hn_)), Or.elim hk_ (fun hs_ => hs_.2.2) (fun hn_ => (Kd.freshB (g := gb245) (o := .cells #[.int .i64 0, .int .i32 0, .int .i64 0, .int .i64 0, .int .i64 0] 55 (0, 0)) q6_4 k_ hn_))⟩)); have n5_ := A6_ (Kept.then_ (S := (fun k_ => k_ = g)) q6_5 hkp (fun k_ hs_ => (fun e_ => .inl e_) hs_)); have n6_ := A6_ (hb); clear BK0 HO0_0 BK245 HO249 HK HB; have BK0 := n0_; have HO0_0 := n1_; have BK245 := n2_; have HO249 := n3_; have HO254 := n4_; have HK := n5_; have HB := n6_; clear n0_ n1_ n2_ n3_ n4_ n5_ n6_; (try clear hbx); (try clear hbn); (try clear hgn); (try clear hb); (try clear hkp); (try clear ho0); obtain ⟨Ao24, co24, eo24⟩ := Kd.V_slice HO254.out; subst eo24) | ((with_reducible refine gate_callee (f := 92) rfl ?_); refine goesL_ (some 13) rfl rfl Try.func92 q6_13 rfl #[.pointer (some ⟨g, 0, none⟩)] rfl q6_6 ?_; (with_reducible refine (codec_Reader_Number.calls k g (fun k_ => ((P0_0_ k_ ∨ w.heap.size ≤ k_) ∧ (k_ ≠ g ∧ k_ ≠ gb245))) Ao24 co24 t252 t255 t256 t257 t260 w0 _ ?side2 ?side3 ?side1 ?side4 A4.out).mono ?_); (case side1 => repeat (first | (with_reducible first | exact HB.out | apply below_alloc | apply pw_below_drewN | apply below_drew1 | refine below_set ?_ GE0.out | refine below_set ?_ GE245.out) | exact HB.out)); (case side2 => (with_reducible repeat (first | refine blk_drewN ?_ _ | refine blk_drew ?_ | refine blk_alloc ?_ _)); exact BK0.out); (case side3 => exact GE0.out); (case side4 => exact Kd.V_mono (HO254.out) (fun k_ hk_ => ⟨hk_, hk_.2.1⟩)); rintro e w25 ⟨v258, rfl, ho0, hbx, hb, hkp⟩; refine ⟨_, rfl, ?_⟩; have n0_ := A6_ (hbx); have n1_ := A6_ (Kd.V_mono (ok' := fun k_ => (P0_0_ k_ ∨ w.heap.size ≤ k_) ∧ k_ ≠ g ∧ k_ ≠ gb245) (Kd.V_keptB (HO0_0.out) hkp (fun k_ hk_ hs_ => (hk_.2.1) hs_)) (fun k_ hk_ => ⟨hk_.1.1, hk_.1.2.1, hk_.1.2.2⟩)); have n2_ := A6_ (blk_kept q6_4 hkp (fun hs_ => (fun e_ => NB245_0.out e_) hs_)); have n3_ := A6_ (Kd.V_mono (ok' := fun k_ => (P0_0_ k_ ∨ w.heap.size ≤ k_) ∧ k_ ≠ g ∧ k_ ≠ gb245) (Kd.V_keptB (HO249.out) hkp (fun k_ hk_ hs_ => (hk_.2.1) hs_)) (fun k_ hk_ => ⟨hk_.1.1, hk_.1.2.1, hk_.1.2.2⟩)); have n4_ := A6_ (Kd.V_mono (ok' := fun k_ => (P0_0_ k_ ∨ w.heap.size ≤ k_) ∧ k_ ≠ g ∧ k_ ≠ gb245) (Kd.V_keptB (HO254.out) hkp (fun k_ hk_ hs_ => (hk_.2.1) hs_)) (fun k_ hk_ => ⟨hk_.1.1, hk_.1.2.1, hk_.1.2.2⟩)); have n5_ := A6_ (Kd.V_mono (ok' := fun k_ => (P0_0_ k_ ∨ w.heap.size ≤ k_) ∧ k_ ≠ g ∧ k_ ≠ gb245) ho0 (fun k_ hk_ => ⟨Or.elim hk_ (fun hs_ => hs_.1) (fun hn_ => (.inr (Nat.le_trans q6_3 hn_))), Or.elim hk_ (fun hs_ => hs_.2.1) (fun hn_ => (Kd.freshB (g := g) (o := .cells #[.slice Ao24 t252.length co24, .int .i64 t255] 104 (0, 0)) q6_2 k_ hn_)), Or.elim hk_ (fun hs_ => hs_.2.2) (fun hn_ => (Kd.freshB (g := gb245) (o := .cells #[.int .i64 0, .int .i32 0, .int .i64 0, .int .i64 0, .int .i64 0] 55 (0, 0)) q6_4 k_ hn_))⟩)); have n6_ := A6_ (Kept.then_ (S := (fun k_ => k_ = g)) q6_5 hkp (fun k_ hs_ => (fun e_ => .inl e_) hs_)); have n7_ := A6_ (hb); clear BK0 HO0_0 BK245 HO249 HO254 HK HB; have BK0 := n0_; have HO0_0 := n1_; have BK245 := n2_; have HO249 := n3_; have HO254 := n4_; have HO259 := n5_; have HK := n6_; have HB := n7_; clear n0_ n1_ n2_ n3_ n4_ n5_ n6_ n7_; (try clear hbx); (try clear hbn); (try clear hgn); (try clear hb); (try clear hkp); (try clear ho0); obtain ⟨Ao26, co26, eo26⟩ := Kd.V_slice HO259.out; subst eo26) | ((with_reducible refine gate_callee (f := 92) rfl ?_); refine goesL_ (some 15) rfl rfl Try.func92 q6_13 rfl #[.pointer (some ⟨g, 0, none⟩)] rfl q6_6 ?_; (with_reducible refine (codec_Reader_Number.calls k g (fun k_ => ((P0_0_ k_ ∨ w.heap.size ≤ k_) ∧ (k_ ≠ g ∧ k_ ≠ gb245))) Ao26 co26 t257 t260 t261 t262 t265 w0 _ ?side2 ?side3 ?side1 ?side4 A5.out).mono ?_); (case side1 => repeat (first | (with_reducible first | exact HB.out | apply below_alloc | apply pw_below_drewN | apply below_drew1 | refine below_set ?_ GE0.out | refine below_set ?_ GE245.out) | exact HB.out)); (case side2 => (with_reducible repeat (first | refine blk_drewN ?_ _ | refine blk_drew ?_ | refine blk_alloc ?_ _)); exact BK0.out); (case side3 => exact GE0.out); (case side4 => exact Kd.V_mono (HO259.out) (fun k_ hk_ => ⟨hk_, hk_.2.1⟩)); rintro e w27 ⟨v263, rfl, ho0, hbx, hb, hkp⟩; refine ⟨_, rfl, ?_⟩; have n0_ := A6_ (hbx); have n1_ := A6_ (Kd.V_mono (ok' := fun k_ => (P0_0_ k_ ∨ w.heap.size ≤ k_) ∧ k_ ≠ g ∧ k_ ≠ gb245) (Kd.V_keptB (HO0_0.out) hkp (fun k_ hk_ hs_ => (hk_.2.1) hs_)) (fun k_ hk_ => ⟨hk_.1.1, hk_.1.2.1, hk_.1.2.2⟩)); have n2_ := A6_ (blk_kept q6_4 hkp (fun hs_ => (fun e_ => NB245_0.out e_) hs_)); have n3_ := A6_ (Kd.V_mono (ok' := fun k_ => (P0_0_ k_ ∨ w.heap.size ≤ k_) ∧ k_ ≠ g ∧ k_ ≠ gb245) (Kd.V_keptB (HO249.out) hkp (fun k_ hk_ hs_ => (hk_.2.1) hs_)) (fun k_ hk_ => ⟨hk_.1.1, hk_.1.2.1, hk_.1.2.2⟩)); have n4_ := A6_ (Kd.V_mono (ok' := fun k_ => (P0_0_ k_ ∨ w.heap.size ≤ k_) ∧ k_ ≠ g ∧ k_ ≠ gb245) (Kd.V_keptB (HO254.out) hkp (fun k_ hk_ hs_ => (hk_.2.1) hs_)) (fun k_ hk_ => ⟨hk_.1.1, hk_.1.2.1, hk_.1.2.2⟩)); have n5_ := A6_ (Kd.V_mono (ok' := fun k_ => (P0_0_ k_ ∨ w.heap.size ≤ k_) ∧ k_ ≠ g ∧ k_ ≠ gb245) (Kd.V_keptB (HO259.out) hkp (fun k_ hk_ hs_ => (hk_.2.1) hs_)) (fun k_ hk_ => ⟨hk_.1.1, hk_.1.2.1, hk_.1.2.2⟩)); have n6_ := A6_ (Kd.V_mono (ok' := fun k_ => (P0_0_ k_ ∨ w.heap.size ≤ k_) ∧ k_ ≠ g ∧ k_ ≠ gb245) ho0 (fun k_ hk_ => ⟨Or.elim hk_ (fun hs_ => hs_.1) (fun hn_ => (.inr (Nat.le_trans q6_3 hn_))), Or.elim hk_ (fun hs_ => hs_.2.1) (fun hn_ => (Kd.freshB (g := g) (o := .cells #[.slice Ao26 t257.length co26, .int .i64 t260] 104 (0, 0)) q6_2 k_ hn_)), Or.elim hk_ (fun hs_ => hs_.2.2) (fun hn_ => (Kd.freshB (g := gb245) (o := .cells #[.int .i64 0, .int .i32 0, .int .i64 0, .int .i64 0, .int .i64 0] 55 (0, 0)) q6_4 k_ hn_))⟩)); have n7_ := A6_ (Kept.then_ (S := (fun k_ => k_ = g)) q6_5 hkp (fun k_ hs_ => (fun e_ => .inl e_) hs_)); have n8_ := A6_ (hb); clear BK0 HO0_0 BK245 HO249 HO254 HO259 HK HB; have BK0 := n0_; have HO0_0 := n1_; have BK245 := n2_; have HO249 := n3_; have HO254 := n4_; have HO259 := n5_; have HO264 := n6_; have HK := n7_; have HB := n8_; clear n0_ n1_ n2_ n3_ n4_ n5_ n6_ n7_ n8_; (try clear hbx); (try clear hbn); (try clear hgn); (try clear hb); (try clear hkp); (try clear ho0); obtain ⟨Ao28, co28, eo28⟩ := Kd.V_slice HO264.out; subst eo28) | ((with_reducible refine gate_callee (f := 92) rfl ?_); refine goesL_ (some 17) rfl rfl Try.func92 q6_13 rfl #[.pointer (some ⟨g, 0, none⟩)] rfl q6_6 ?_; (with_reducible refine (codec_Reader_Number.calls k g (fun k_ => ((P0_0_ k_ ∨ w.heap.size ≤ k_) ∧ (k_ ≠ g ∧ k_ ≠ gb245))) Ao28 co28 t262 t265 t266 t267 t270 w0 _ ?side2 ?side3 ?side1 ?side4 A6.out).mono ?_); (case side1 => repeat (first | (with_reducible first | exact HB.out | apply below_alloc | apply pw_below_drewN | apply below_drew1 | refine below_set ?_ GE0.out | refine below_set ?_ GE245.out) | exact HB.out)); (case side2 => (with_reducible repeat (first | refine blk_drewN ?_ _ | refine blk_drew ?_ | refine blk_alloc ?_ _)); exact BK0.out); (case side3 => exact GE0.out); (case side4 => exact Kd.V_mono (HO264.out) (fun k_ hk_ => ⟨hk_, hk_.2.1⟩)); rintro e w29 ⟨v268, rfl, ho0, hbx, hb, hkp⟩; refine ⟨_, rfl, ?_⟩; have n0_ := A6_ (hbx); have n1_ := A6_ (Kd.V_mono (ok' := fun k_ => (P0_0_ k_ ∨ w.heap.size ≤ k_) ∧ k_ ≠ g ∧ k_ ≠ gb245) (Kd.V_keptB (HO0_0.out) hkp (fun k_ hk_ hs_ => (hk_.2.1) hs_)) (fun k_ hk_ => ⟨hk_.1.1, hk_.1.2.1, hk_.1.2.2⟩)); have n2_ := A6_ (blk_kept q6_4 hkp (fun hs_ => (fun e_ => NB245_0.out e_) hs_)); have n3_ := A6_ (Kd.V_mono (ok' := fun k_ => (P0_0_ k_ ∨ w.heap.size ≤ k_) ∧ k_ ≠ g ∧ k_ ≠ gb245) (Kd.V_keptB (HO249.out) hkp (fun k_ hk_ hs_ => (hk_.2.1) hs_)) (fun k_ hk_ => ⟨hk_.1.1, hk_.1.2.1, hk_.1.2.2⟩)); have n4_ := A6_ (Kd.V_mono (ok' := fun k_ => (P0_0_ k_ ∨ w.heap.size ≤ k_) ∧ k_ ≠ g ∧ k_ ≠ gb245) (Kd.V_keptB (HO254.out) hkp (fun k_ hk_ hs_ => (hk_.2.1) hs_)) (fun k_ hk_ => ⟨hk_.1.1, hk_.1.2.1, hk_.1.2.2⟩)); have n5_ := A6_ (Kd.V_mono (ok' := fun k_ => (P0_0_ k_ ∨ w.heap.size ≤ k_) ∧ k_ ≠ g ∧ k_ ≠ gb245) (Kd.V_keptB (HO259.out) hkp (fun k_ hk_ hs_ => (hk_.2.1) hs_)) (fun k_ hk_ => ⟨hk_.1.1, hk_.1.2.1, hk_.1.2.2⟩)); have n6_ := A6_ (Kd.V_mono (ok' := fun k_ => (P0_0_ k_ ∨ w.heap.size ≤ k_) ∧ k_ ≠ g ∧ k_ ≠ gb245) (Kd.V_keptB (HO264.out) hkp (fun k_ hk_ hs_ => (hk_.2.1) hs_)) (fun k_ hk_ => ⟨hk_.1.1, hk_.1.2.1, hk_.1.2.2⟩)); have n7_ := A6_ (Kd.V_mono (ok' := fun k_ => (P0_0_ k_ ∨ w.heap.size ≤ k_) ∧ k_ ≠ g ∧ k_ ≠ gb245) ho0 (fun k_ hk_ => ⟨Or.elim hk_ (fun hs_ => hs_.1) (fun hn_ => (.inr (Nat.le_trans q6_3 hn_))), Or.elim hk_ (fun hs_ => hs_.2.1) (fun hn_ => (Kd.freshB (g := g) (o := .cells #[.slice Ao28 t262.length co28, .int .i64 t265] 104 (0, 0)) q6_2 k_ hn_)), Or.elim hk_ (fun hs_ => hs_.2.2) (fun hn_ => (Kd.freshB (g := gb245) (o := .cells #[.int .i64 0, .int .i32 0, .int .i64 0, .int .i64 0, .int .i64 0] 55 (0, 0)) q6_4 k_ hn_))⟩)); have n8_ := A6_ (Kept.then_ (S := (fun k_ => k_ = g)) q6_5 hkp (fun k_ hs_ => (fun e_ => .inl e_) hs_)); have n9_ := A6_ (hb); clear BK0 HO0_0 BK245 HO249 HO254 HO259 HO264 HK HB; have BK0 := n0_; have HO0_0 := n1_; have BK245 := n2_; have HO249 := n3_; have HO254 := n4_; have HO259 := n5_; have HO264 := n6_; have HO269 := n7_; have HK := n8_; have HB := n9_; clear n0_ n1_ n2_ n3_ n4_ n5_ n6_ n7_ n8_ n9_; (try clear hbx); (try clear hbn); (try clear hgn); (try clear hb); (try clear hkp); (try clear ho0); have hnb30 := NB245_0.out; have hnc30 := NB0_245.out; have hcz31_0 : w29.cell? ⟨gb245, 0, none⟩ = some (.int .i64 0) := (blk_cell BK245.out 0).trans rfl; have hcz31_1 : w29.cell? ⟨gb245, 1, none⟩ = some (.int .i32 0) := (blk_cell BK245.out 1).trans rfl; have hcz31_2 : w29.cell? ⟨gb245, 2, none⟩ = some (.int .i64 0) := (blk_cell BK245.out 2).trans rfl; have hcz31_3 : w29.cell? ⟨gb245, 3, none⟩ = some (.int .i64 0) := (blk_cell BK245.out 3).trans rfl; have hcz31_4 : w29.cell? ⟨gb245, 4, none⟩ = some (.int .i64 0) := (blk_cell BK245.out 4).trans rfl; have hfz31_0 := blk_frozen BK245.out 0; have hfz31_1 := blk_frozen BK245.out 1; have hfz31_2 := blk_frozen BK245.out 2; have hfz31_3 := blk_frozen BK245.out 3; have hfz31_4 := blk_frozen BK245.out 4))
  refine bodyPost_ret (results_cell_row rfl _ _ gb245 55 #[.int .i64 t246, .int .i32 (wrap32 (t251)), .int .i64 t256, .int .i64 t261, .int .i64 t266] (0, 0) _ rfl (by (with_reducible repeat (first | refine blk_drewN ?_ _ | refine blk_drew ?_ | refine blk_alloc ?_ _)); refine blk_put (cs := #[.int .i64 t246, .int .i32 (wrap32 (t251)), .int .i64 t256, .int .i64 t261, .int .i64 0]) ?_ 4 _ rfl; (with_reducible repeat (first | refine blk_drewN ?_ _ | refine blk_drew ?_ | refine blk_alloc ?_ _)); refine blk_put (cs := #[.int .i64 t246, .int .i32 (wrap32 (t251)), .int .i64 t256, .int .i64 0, .int .i64 0]) ?_ 3 _ rfl; (with_reducible repeat (first | refine blk_drewN ?_ _ | refine blk_drew ?_ | refine blk_alloc ?_ _)); refine blk_put (cs := #[.int .i64 t246, .int .i32 (wrap32 (t251)), .int .i64 0, .int .i64 0, .int .i64 0]) ?_ 2 _ rfl; (with_reducible repeat (first | refine blk_drewN ?_ _ | refine blk_drew ?_ | refine blk_alloc ?_ _)); refine blk_put (cs := #[.int .i64 t246, .int .i32 0, .int .i64 0, .int .i64 0, .int .i64 0]) ?_ 1 _ rfl; (with_reducible repeat (first | refine blk_drewN ?_ _ | refine blk_drew ?_ | refine blk_alloc ?_ _)); refine blk_put (cs := #[.int .i64 0, .int .i32 0, .int .i64 0, .int .i64 0, .int .i64 0]) ?_ 0 _ rfl; (with_reducible repeat (first | refine blk_drewN ?_ _ | refine blk_drew ?_ | refine blk_alloc ?_ _)); exact BK245.out) Try.underlying55 rfl q6_13) rfl ?_
  exact ⟨(v268), by first | rfl | (simp [errW_none, errW_some, ptrW_true, ptrW_false] <;> rfl) | (simp [*, errW_none, errW_some, ptrW_true, ptrW_false] <;> rfl), by (with_reducible repeat (first | apply Kd.V_alloc | apply Kd.V_drewN | apply Kd.V_drew)); exact Kd.V_mono (Kd.V_far (p := ⟨gb245, 4, none⟩) (Kd.V_far (p := ⟨gb245, 3, none⟩) (Kd.V_far (p := ⟨gb245, 2, none⟩) (Kd.V_far (p := ⟨gb245, 1, none⟩) (Kd.V_far (p := ⟨gb245, 0, none⟩) (Kd.V_mono HO269.out (fun k_ hk => (⟨hk, hk.2.2⟩ : _ ∧ k_ ≠ gb245))) (fun _ hk => hk.2) (.int .i64 t246)) (fun _ hk => hk.2) (.int .i32 (wrap32 (t251)))) (fun _ hk => hk.2) (.int .i64 t256)) (fun _ hk => hk.2) (.int .i64 t261)) (fun _ hk => hk.2) (.int .i64 t266)) (fun _ hk => hk.1.1), q6_9, by repeat (first | (with_reducible first | exact HB.out | apply below_alloc | apply pw_below_drewN | apply below_drew1 | refine below_set ?_ GE0.out | refine below_set ?_ GE245.out) | exact HB.out), by repeat (first | (with_reducible first | exact HK.out | apply Kept.alloc | apply Kept.drewN | apply Kept.drew | refine Kept.setCell ?_ (.inl (show g = g from rfl)) _ | refine Kept.setCell ?_ (.inr GW245.out) _) | exact HK.out)⟩

end Go.Proofs.Ytkckojgjkmcokaa.PF09B
