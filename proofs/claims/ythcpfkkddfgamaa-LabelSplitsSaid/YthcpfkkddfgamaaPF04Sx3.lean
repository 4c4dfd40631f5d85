/- By a program of this session (wip/tool/pp.py): plain Lean functions of the Go functions that this family of laws uses, the walks that the Go code comes to their answers, and the row of the law. No condition beside those that the row itself gives. -/
import Derived.Test.YthcpfkkddfgamaaPF04Sx0
import Derived.Test.YthcpfkkddfgamaaPF04Sx2
namespace Go.Proofs.Ythcpfkkddfgamaa.PF04S
open Go.RowKit Go.Proofs.YthcpfkkddfgamaaW.Hand Go.Proofs.YthcpfkkddfgamaaW.PrintWords Go.Proofs.YthcpfkkddfgamaaW.PrintLast Go.Proofs.YthcpfkkddfgamaaW.PrintMore
attribute [local go_sem] max2_int min2_int max_two min_two max_three min_three max_four min_four   -- for this text's walks alone
set_option linter.unusedVariables false
set_option linter.unusedSimpArgs false

/-! ### label_Split: function 21 -/
def label_Split.l0 : Nat → List (List Int) → List Int → Int → Int → Option ((List (List Int)) × Int)
  | 0, _, _, _, _ => none
  | k + 1, x4, x5, x21, x22 => if x22 < x21 then ((label_part.f k x5).bind fun bt175 => (if bt175.2.2 = 0 then (if x4.length < 5864062014805 then (label_Split.l0 k (x4 ++ [bt175.1]) bt175.2.1 x21 ((x22 + 1) % 256)) else (none)) else (some (([] : List (List Int)), bt175.2.2)))) else (if (x5.length : Int) > 0 then (some (([] : List (List Int)), 5)) else (some (x4, 0)))
def label_Split.f (k : Nat) (l0 : List Int) : Option ((List (List Int)) × Int) := if (l0.length : Int) = 0 then (some (([] : List (List Int)), 4)) else (if 0 < (l0.length : Int) then (if (rd l0 0) > 64 then (some (([] : List (List Int)), 2)) else (if 1 ≤ (l0.length : Int) then (label_Split.l0 k (([] : List (List Int))) (l0.drop 1) (rd l0 0) 0) else (none))) else (none))
theorem label_Split.mono_l : ∀ k, (∀ y0 y1 y2 y3, LeO (label_Split.l0 k y0 y1 y2 y3) (label_Split.l0 (k + 1) y0 y1 y2 y3))
  | 0 => fun _ _ _ _ r h => by simp [label_Split.l0] at h
  | k + 1 => by
    have ih0 := label_Split.mono_l k
    · intro y0 y1 y2 y3
      unfold label_Split.l0
      repeat' first
      | (with_reducible exact ih0 _ _ _ _)
      | (with_reducible exact label_part.mono _ _)
      | (with_reducible exact LeO.refl _)
      | (with_reducible exact LeO.none _)
      | (with_reducible refine LeO.ite ?_ ?_)
      | (with_reducible refine LeO.bind ?_ (fun _ => ?_))
      | exact ih0 _ _ _ _
      | exact label_part.mono _ _
      | exact LeO.none _
      | refine LeO.ite ?_ ?_
      | refine LeO.bind ?_ (fun _ => ?_)
theorem label_Split.mono : ∀ a0 k, LeO (label_Split.f k a0) (label_Split.f (k + 1) a0) := by
  intro a0 k
  have ih0 := label_Split.mono_l k
  unfold label_Split.f
  repeat' first
      | (with_reducible exact ih0 _ _ _ _)
      | (with_reducible exact label_part.mono _ _)
      | (with_reducible exact LeO.refl _)
      | (with_reducible exact LeO.none _)
      | (with_reducible refine LeO.ite ?_ ?_)
      | (with_reducible refine LeO.bind ?_ (fun _ => ?_))
      | exact ih0 _ _ _ _
      | exact label_part.mono _ _
      | exact LeO.none _
      | refine LeO.ite ?_ ?_
      | refine LeO.bind ?_ (fun _ => ?_)
set_option maxHeartbeats 8000000 in
set_option maxRecDepth 100000 in
theorem label_Split.calls (k : Nat) (P0_ : Nat → Prop) (A0 : Option Addr) (c0 : Nat) (l0 : List Int) (r1 : List (List Int)) (r2 : Int) (w : World) (hs0 : Kd.V (Kd.int .u8) 5 w w.heap.size (fun k_ => P0_ k_) (.slice A0 l0.length c0) l0) (h : label_Split.f k l0 = some (r1, r2)) :
    Calls Try.prog 21 #[.slice A0 l0.length c0] w fun e w' => ∃ v0_ : Value, e = .returned (.tuple #[v0_, .int .i64 r2]) ∧ Kd.S (Kd.slice 5 (Kd.int .u8)) 28 w' w.heap.size (fun k_ => (w.heap.size ≤ k_)) v0_ r1 ∧ Below w.heap.size w w' := by
  have HO0 := Aside0.mk (show Kd.V (Kd.int .u8) 5 w w.heap.size (fun k_ => (P0_ k_ ∨ w.heap.size ≤ k_)) (.slice A0 l0.length c0) l0 from Kd.V_mono hs0 (fun k_ hk => .inl hk))
  have HB := Aside0.mk (Below.refl w.heap.size w)
  have H : (if (l0.length : Int) = 0 then (some (([] : List (List Int)), 4)) else (if 0 < (l0.length : Int) then (if (rd l0 0) > 64 then (some (([] : List (List Int)), 2)) else (if 1 ≤ (l0.length : Int) then (label_Split.l0 k (([] : List (List Int))) (l0.drop 1) (rd l0 0) 0) else (none))) else (none))) = some (r1, r2) := h
  clear h
  by_cases c2 : (l0.length : Int) = 0
  · rw [if_pos c2] at H
    have c2b0 : ((l0.length : Int) == 0) = true := beq_iff_eq.mpr c2
    have c2b1 : ((l0.length : Int) != 0) = false := bne_eq_false_iff_eq.mpr c2
    clear c2
    simp only [Option.some.injEq, Prod.mk.injEq] at H
    obtain ⟨rfl, rfl⟩ := H
    go_enter Try.func21, Try.ntmps21
    go_wp2
    go_ret2
    exact ⟨_, by first | rfl | (simp [errW_none, errW_some] <;> rfl) | (simp [*, errW_none, errW_some] <;> rfl), by first | exact Kd.S_nil _ _ _ _ _ | exact Kd.N_nil _ _ _ _ _ | exact Kd.V_nil _ _ _ _ _ | exact Kd.Q_nil _ _ _ _ _ | exact Kd.R_nil _ _ _ _ _, by repeat (first | (with_reducible first | exact HB.out | apply below_alloc | apply pw_below_drewN | apply below_drew1) | exact HB.out)⟩
  · rw [if_neg c2] at H
    have c2b0 : ((l0.length : Int) == 0) = false := beq_eq_false_iff_ne.mpr c2
    have c2b1 : ((l0.length : Int) != 0) = true := bne_iff_ne.mpr c2
    have c2b2 : ¬ (l0 = []) := fun h_ => c2 (by rw [h_]; rfl)
    by_cases c3 : 0 < (l0.length : Int)
    · rw [if_pos c3] at H
      have c3b0 : decide (0 < (l0.length : Int)) = true := decide_eq_true c3
      have c3b1 : decide (0 < l0.length) = true := decide_eq_true (by omega)
      clear c3
      by_cases c4 : (rd l0 0) > 64
      · rw [if_pos c4] at H
        have c4b0 : decide (64 < (rd l0 0)) = true := decide_eq_true c4
        clear c4
        simp only [Option.some.injEq, Prod.mk.injEq] at H
        obtain ⟨rfl, rfl⟩ := H
        have p165 : 0 ≤ (0 : Int) := (by omega)
        have q165 : 0 < (l0.length : Int) := of_decide_eq_true (by first | (with_reducible assumption) | assumption)
        obtain ⟨ad165, e165, hx165_0⟩ := Kd.at_int (Kd.V_reads' HO0.out).2.2 0 p165 q165
        cases e165
        have qi165 : (0 < l0.length) = True := eq_true (by omega)
        (try rw [show ((0 : Int)).toNat = 0 from rfl] at hx165_0)
        (try rw [Addr.add_zero'] at hx165_0)
        replace p165 := eq_true p165
        replace q165 := eq_true q165
        go_enter Try.func21, Try.ntmps21
        go_wp2
        go_ret2
        exact ⟨_, by first | rfl | (simp [errW_none, errW_some] <;> rfl) | (simp [*, errW_none, errW_some] <;> rfl), by first | exact Kd.S_nil _ _ _ _ _ | exact Kd.N_nil _ _ _ _ _ | exact Kd.V_nil _ _ _ _ _ | exact Kd.Q_nil _ _ _ _ _ | exact Kd.R_nil _ _ _ _ _, by repeat (first | (with_reducible first | exact HB.out | apply below_alloc | apply pw_below_drewN | apply below_drew1) | exact HB.out)⟩
      · rw [if_neg c4] at H
        have c4b0 : decide (64 < (rd l0 0)) = false := decide_eq_false c4
        clear c4
        obtain ⟨y166, hy166⟩ : ∃ y_ : List (List Int), y_ = (([] : List (List Int))) := ⟨_, rfl⟩
        replace H : (if 1 ≤ (l0.length : Int) then (label_Split.l0 k y166 (l0.drop 1) (rd l0 0) 0) else (none)) = some (r1, r2) := by first | (rw [hy166]; with_reducible exact H) | (have H2_ := (Option.bind_some _ _).symm.trans H; rw [hy166]; with_reducible exact H2_) | (have H2_ := (Option.bind_some _ _).symm.trans H; with_reducible exact H2_) | with_reducible exact H | (rw [hy166]; exact H) | exact H
        have Ny166 := Aside0.mk hy166
        clear hy166
        by_cases c5 : 1 ≤ (l0.length : Int)
        · rw [if_pos c5] at H
          have c5b0 := eq_true c5
          have c5b1 : decide (1 ≤ (l0.length : Int)) = true := decide_eq_true c5
          clear c5
          obtain ⟨y169, hy169⟩ : ∃ y_ : List Int, y_ = (l0.drop 1) := ⟨_, rfl⟩
          replace H : (label_Split.l0 k y166 y169 (rd l0 0) 0) = some (r1, r2) := by first | (rw [hy169]; with_reducible exact H) | (have H2_ := (Option.bind_some _ _).symm.trans H; rw [hy169]; with_reducible exact H2_) | (have H2_ := (Option.bind_some _ _).symm.trans H; with_reducible exact H2_) | with_reducible exact H | (rw [hy169]; exact H) | exact H
          have Ny169 := Aside0.mk hy169
          clear hy169
          have H' := Aside0.mk H
          clear H
          have p165 : 0 ≤ (0 : Int) := (by omega)
          have q165 : 0 < (l0.length : Int) := of_decide_eq_true (by first | (with_reducible assumption) | assumption)
          obtain ⟨ad165, e165, hx165_0⟩ := Kd.at_int (Kd.V_reads' HO0.out).2.2 0 p165 q165
          cases e165
          have qi165 : (0 < l0.length) = True := eq_true (by omega)
          (try rw [show ((0 : Int)).toNat = 0 from rfl] at hx165_0)
          (try rw [Addr.add_zero'] at hx165_0)
          replace p165 := eq_true p165
          replace q165 := eq_true q165
          go_enter Try.func21, Try.ntmps21
          go_wp2_with (first | ((with_reducible refine gate_dst (N := 16) rfl ?_); refine S_makecap (Kd.slice 5 (Kd.int .u8)) _ 28 rfl (N := 16) rfl 22 _ _ rfl 64 rfl rfl Try.underlying22 (.slice none 0 0) 24 info28 rfl (by decide) (by omega) (ok := fun _ => True) (okp := fun _ => True) (fun _ hk => hk) trivial (by omega) (by omega) (Below.refl _ _) (Nat.le_refl _) ?_; intro v167 w6 ho7 hb hg_ hnew_; clear hg_ hnew_; (first | rw [← Ny166.out] at ho7 | (simp only [Int.reduceToNat] at ho7; rw [← Ny166.out] at ho7)); have n0_ := Aside0.mk (Kd.V_elder' (by (with_reducible repeat (first | apply Kd.V_alloc | apply Kd.V_drewN | apply Kd.V_drew)); exact HO0.out) (Kd.S_base ho7) hb); have n1_ := Aside0.mk (Kd.S_lower (Kd.S_newM (M := fun k_ => (w.heap.size ≤ k_)) ho7 (below_size (by repeat (first | (with_reducible first | exact HB.out | apply below_alloc | apply pw_below_drewN | apply below_drew1) | exact HB.out))) (fun k_ h_ => h_)) (below_size (by repeat (first | (with_reducible first | exact HB.out | apply below_alloc | apply pw_below_drewN | apply below_drew1) | exact HB.out)))); have n2_ := Aside0.mk (below_step (by repeat (first | (with_reducible first | exact HB.out | apply below_alloc | apply pw_below_drewN | apply below_drew1) | exact HB.out)) hb); clear HO0; clear HB; have HO0 := n0_; have HO168 := n1_; have HB := n2_; clear n0_ n1_ n2_; clear hb ho7; have q8 : (1 : Int) ≤ ((l0.length : Int) : Int) := of_decide_eq_true (by first | (with_reducible assumption) | assumption); obtain ⟨i08, hi08, _, hsz8, _⟩ := info_parts info5; have hroom8 : l0.length ≤ c0 := (Kd.V_reads' HO0.out).2.1; have hC8 : Kd.F (Kd.int .u8) _ _ (some ad165) l0.length l0 := (Kd.V_at (base := w.heap.size) HO0.out).2.2; have hcut8 := fun kh_ => cut_from (P := Try.prog) 28 5 kh_ Try.underlying28 hi08 1 hsz8 (some ad165) l0.length c0 1 (by omega) q8; have hr8 := Kd.F_cut (m := (1 : Int).toNat) (c := c0) hC8 (by omega) hroom8; obtain ⟨A8, hA8⟩ : ∃ A1, A1 = (if c0 = (1 : Int).toNat then (some ad165) else ((some ad165) : Option Addr).map (·.add ((1 : Int).toNat * 1))) := ⟨_, rfl⟩; obtain ⟨c8, hc8⟩ : ∃ c1, c1 = c0 - (1 : Int).toNat := ⟨_, rfl⟩; have hy8 : y169.length = l0.length - (1 : Int).toNat := (by rw [Ny169.out, List.length_drop] <;> omega); rw [show (l0).drop (1 : Int).toNat = y169 from Ny169.out.symm] at hr8; replace hr8 : Kd.F (Kd.int .u8) _ _ A8 y169.length y169 := (by rw [hA8]; exact hr8); rw [← hy8, ← hA8, ← hc8] at hcut8; have HO173 := Aside0.mk (show Kd.V (Kd.int .u8) 5 _ w.heap.size _ (.slice A8 y169.length c8) y169 from Kd.V_mk (by rw [hy8, hc8]; exact Nat.sub_le_sub_right hroom8 _) hr8); have HC173 := Aside0.mk (show y169.length ≤ c8 from by rw [hy8, hc8]; exact Nat.sub_le_sub_right hroom8 _); clear hr8 hC8 hroom8 hi08 hsz8 hc8; have KY8 := Aside0.mk hy8; have KA8 := Aside0.mk hA8; clear hy8 hA8; replace q8 := eq_true q8; have p174 : 0 ≤ (0 : Int) := (by omega); have q174 : 0 < (l0.length : Int) := of_decide_eq_true (by first | (with_reducible assumption) | assumption); obtain ⟨ad174, e174, hx174_0⟩ := Kd.at_int (Kd.V_reads' HO0.out).2.2 0 p174 q174; obtain rfl : ad165 = ad174 := (by injection e174); have qi174 : (0 < l0.length) = True := eq_true (by omega); (try rw [show ((0 : Int)).toNat = 0 from rfl] at hx174_0); (try rw [Addr.add_zero'] at hx174_0); replace p174 := eq_true p174; replace q174 := eq_true q174))
          go_loopg [4, 5, 22] k (fun kq v4 v5 v22 w' => ∃ (x4_1 : List (List Int)) (x5_1 : List Int) (x22_1 : Int), v22 = .int .u8 x22_1 ∧ Aside0 (label_Split.l0 kq x4_1 x5_1 (rd l0 0) x22_1 = some (r1, r2)) ∧ Aside0 (kq ≤ k) ∧ Aside0 (Kd.S (Kd.slice 5 (Kd.int .u8)) 28 w' w.heap.size (fun k_ => (w.heap.size ≤ k_)) v4 x4_1) ∧ Aside0 (Kd.V (Kd.int .u8) 5 w' w.heap.size (fun k_ => (P0_ k_ ∨ w.heap.size ≤ k_) ∧ some k_ ≠ (v4 : Value).ownBlock) v5 x5_1) ∧ Aside0 (Below w.heap.size w w'))
          case atStart => exact ⟨(y166), (y169), (0), (by first | rfl | (simp; done) | (simp [*]; done)), H', ⟨Nat.le_refl _⟩, ⟨by (with_reducible repeat (first | apply Kd.S_alloc | apply Kd.S_drewN | apply Kd.S_drew)); exact Kd.S_mono HO168.out (fun _ hk => hk.1)⟩, ⟨by (with_reducible repeat (first | apply Kd.V_alloc | apply Kd.V_drewN | apply Kd.V_drew)); exact HO173.out⟩, ⟨by repeat (first | (with_reducible first | exact HB.out | apply below_alloc | apply pw_below_drewN | apply below_drew1) | exact HB.out)⟩⟩
          case round =>
            clear H'
            try clear c1
            try clear p1
            try clear q1
            try clear hx1
            try clear qi1
            try clear c2
            try clear c2b0
            try clear c2b1
            try clear c2b2
            try clear p2
            try clear c3
            try clear c3b0
            try clear c3b1
            try clear c4
            try clear c4b0
            try clear c5
            try clear c5b0
            try clear c5b1
            try clear c8
            try clear q8
            try clear hx165_0
            try clear hx174_0
            try clear p165
            try clear p174
            try clear q165
            try clear q174
            try clear q8
            obtain ⟨x4_1, x5_1, x22_1, rfl, HA, HK1, HO_4, HO_5, HB⟩ := hrel
            cases gk with
            | zero => exact absurd HA.out (by simp [label_Split.l0])
            | succ k1 =>
              have H := HA.out
              clear HA
              simp only [label_Split.l0] at H
              by_cases c9 : x22_1 < (rd l0 0)
              · rw [if_pos c9] at H
                have c9b0 : decide (x22_1 < (rd l0 0)) = true := decide_eq_true c9
                clear c9
                replace H := Option.bind_eq_some_iff.mp H
                obtain ⟨⟨t175, t178, t181⟩, A100, H⟩ := H
                replace H : (if t181 = 0 then (if x4_1.length < 5864062014805 then (label_Split.l0 k1 (x4_1 ++ [t175]) t178 (rd l0 0) ((x22_1 + 1) % 256)) else (none)) else (some (([] : List (List Int)), t181))) = some (r1, r2) := H
                have A10 := Aside0.mk A100
                clear A100
                by_cases c11 : t181 = 0
                · rw [if_pos c11] at H
                  have c11b0 : (t181 == 0) = true := beq_iff_eq.mpr c11
                  have c11b1 : (t181 != 0) = false := bne_eq_false_iff_eq.mpr c11
                  clear c11
                  by_cases c12 : x4_1.length < 5864062014805
                  · rw [if_pos c12] at H
                    have LMc12 := Aside0.mk c12
                    clear c12
                    obtain ⟨y182, hy182⟩ : ∃ y_ : List (List Int), y_ = (x4_1 ++ [t175]) := ⟨_, rfl⟩
                    replace H : (label_Split.l0 k1 y182 t178 (rd l0 0) ((x22_1 + 1) % 256)) = some (r1, r2) := by first | (rw [hy182]; with_reducible exact H) | (have H2_ := (Option.bind_some _ _).symm.trans H; rw [hy182]; with_reducible exact H2_) | (have H2_ := (Option.bind_some _ _).symm.trans H; with_reducible exact H2_) | with_reducible exact H | (rw [hy182]; exact H) | exact H
                    have Ny182 := Aside0.mk hy182
                    clear hy182
                    have H' := Aside0.mk H
                    clear H
                    obtain ⟨Ao13, co13, eo13⟩ := Kd.V_slice HO_5.out
                    subst eo13
                    go_wp2_with (first | ((with_reducible refine gate_callee (f := 68) rfl ?_); refine goesL_ (some 26) rfl rfl Try.func68 (by kernel_rfl) rfl #[.slice Ao13 x5_1.length co13] rfl (by (try simp only [List.map_toArray, List.map_cons, List.map_nil]); first | done | rfl | (simp only [List.length_drop, List.length_take]; rfl)) ?_; (with_reducible refine (label_part.calls k1 (fun k_ => ((P0_ k_ ∨ w.heap.size ≤ k_) ∧ some k_ ≠ (u4 : Value).ownBlock)) _ _ x5_1 t175 t178 t181 _ ?side1 A10.out).mono ?_); (case side1 => exact HO_5.out); rintro e w14 ⟨v176, v179, rfl, ho0, ho1, hb⟩; refine ⟨_, rfl, ?_⟩; have n0_ := Aside0.mk (Kd.S_elder' (by (with_reducible repeat (first | apply Kd.S_alloc | apply Kd.S_drewN | apply Kd.S_drew)); exact HO_4.out) (Kd.R_base ho0) hb); have n1_ := Aside0.mk (Kd.V_elder' (by (with_reducible repeat (first | apply Kd.V_alloc | apply Kd.V_drewN | apply Kd.V_drew)); exact HO_5.out) (Kd.R_base ho0) hb); have n2_ := Aside0.mk (Kd.R_lower (Kd.R_newM (M := fun k_ => (w.heap.size ≤ k_)) (Kd.R_mono (ok' := fun k_ => True) ho0 (fun _ hk_ => trivial)) (below_size (by repeat (first | (with_reducible first | exact HB.out | apply below_alloc | apply pw_below_drewN | apply below_drew1) | exact HB.out))) (fun k_ h_ => h_)) (below_size (by repeat (first | (with_reducible first | exact HB.out | apply below_alloc | apply pw_below_drewN | apply below_drew1) | exact HB.out)))); have n3_ := Aside0.mk (Kd.V_lower (Kd.V_mono (ok' := fun k_ => (P0_ k_ ∨ w.heap.size ≤ k_) ∧ some k_ ≠ (v176 : Value).ownBlock ∧ some k_ ≠ (u4 : Value).ownBlock) ho1 (fun k_ hk_ => ⟨Or.elim hk_.1 (fun hs_ => hs_.1) (fun hn_ => (.inr (Nat.le_trans (below_size (by repeat (first | (with_reducible first | exact HB.out | apply below_alloc | apply pw_below_drewN | apply below_drew1) | exact HB.out))) hn_))), hk_.2, Or.elim hk_.1 (fun hs_ => hs_.2) (fun hn_ => (Kd.fresh' (Kd.S_lt (by (with_reducible repeat (first | apply Kd.S_alloc | apply Kd.S_drewN | apply Kd.S_drew)); exact HO_4.out)) k_ hn_))⟩)) (below_size (by repeat (first | (with_reducible first | exact HB.out | apply below_alloc | apply pw_below_drewN | apply below_drew1) | exact HB.out)))); have n4_ := Aside0.mk (below_step (by repeat (first | (with_reducible first | exact HB.out | apply below_alloc | apply pw_below_drewN | apply below_drew1) | exact HB.out)) hb); clear HO_4; clear HO_5; clear HB; have HO_4 := n0_; have HO_5 := n1_; have HO177 := n2_; have HO180 := n3_; have HB := n4_; clear n0_ n1_ n2_ n3_ n4_; (try clear hb); (try clear hb2); (try clear hk); (try clear hi); (try clear ho0); (try clear ho1); obtain ⟨Ao16, co16, eo16⟩ := Kd.R_slice HO177.out; subst eo16) | ((with_reducible refine gate_builtin (b := .append) (xs := #[.tmp 33, .tmp 35]) rfl ?_); at_builtin; refine Kd.S_append (Kd.slice 5 (Kd.int .u8)) (w0 := w) w.heap.size rfl (.tmp 33) (.tmp 35) 22 28 (.slice none 0 0) 24 rfl Try.underlying22 info28 rfl (by decide) (by omega) u4 x4_1 t175 [.slice Ao16 t175.length co16] (fun k_ => (w.heap.size ≤ k_)) (fun k_ => some k_ = (.slice Ao16 t175.length co16 : Value).ownBlock) rfl rfl ?aP (fun k_ hk_ => ((Kd.R_mono (ok' := fun k_ => ((fun k_ => (w.heap.size ≤ k_))) k_ ∧ some k_ ≠ (u4 : Value).ownBlock) (Kd.R_apart' (HO177.out) (Kd.S_typed HO_4.out) (by decide)) (fun k_ hk => ⟨hk.1.1, hk.2⟩))).1 k_ hk_.symm) ?aF ?aO ?aB ?aS ?aL ?_; (case aP => exact Kd.M_row (Kd.R_mono (Kd.R_tight rfl (Kd.R_mono (ok' := fun k_ => ((fun k_ => (w.heap.size ≤ k_))) k_ ∧ some k_ ≠ (u4 : Value).ownBlock) (Kd.R_apart' (HO177.out) (Kd.S_typed HO_4.out) (by decide)) (fun k_ hk => ⟨hk.1.1, hk.2⟩))) (fun _ h_ => h_))); (case aB => exact (by repeat (first | (with_reducible first | exact HB.out | apply below_alloc | apply pw_below_drewN | apply below_drew1) | exact HB.out))); (case aF => exact (fun k_ hk => (Nat.le_trans (below_size (by repeat (first | (with_reducible first | exact HB.out | apply below_alloc | apply pw_below_drewN | apply below_drew1) | exact HB.out))) hk))); (case aO => exact (by (with_reducible repeat (first | apply Kd.S_alloc | apply Kd.S_drewN | apply Kd.S_drew)); exact Kd.S_mono HO_4.out (fun k_ hk => ⟨hk.1, fun e_ => hk.2 e_⟩))); (case aS => exact (below_size (by repeat (first | (with_reducible first | exact HB.out | apply below_alloc | apply pw_below_drewN | apply below_drew1) | exact HB.out)))); (case aL => have := LMc12.out; omega); intro v183 w15 ho hb hg hat; rw [← Ny182.out] at ho; have n0_ := Aside0.mk (Kd.V_afterv (ok := (fun k_ => (P0_ k_ ∨ w.heap.size ≤ k_) ∧ some k_ ≠ (.slice Ao16 t175.length co16 : Value).ownBlock)) (by (with_reducible repeat (first | apply Kd.V_alloc | apply Kd.V_drewN | apply Kd.V_drew)); exact Kd.V_mono HO_5.out (fun _ hk => ⟨⟨hk.1.1, hk.2⟩, hk.1.2⟩)) hg hat); have n1_ := Aside0.mk (Kd.V_afterv (ok := (fun k_ => (P0_ k_ ∨ w.heap.size ≤ k_) ∧ some k_ ≠ (.slice Ao16 t175.length co16 : Value).ownBlock)) (by (with_reducible repeat (first | apply Kd.V_alloc | apply Kd.V_drewN | apply Kd.V_drew)); exact Kd.V_mono HO180.out (fun _ hk => ⟨⟨hk.1, hk.2.1⟩, hk.2.2⟩)) hg hat); have n2_ := Aside0.mk (hb); have n3_ := Aside0.mk (ho); clear HO_5; clear HO180; clear HB; clear HO_4; clear HO177; have HO_5 := n0_; have HO180 := n1_; have HB := n2_; have HO184 := n3_; clear n0_ n1_ n2_ n3_; clear ho hb hg hat))
                    go_roundg k1
                    case measure => have := HK1.out; omega
                    case rel => exact ⟨(y182), (t178), ((x22_1 + 1) % 256), (by first | rfl | (simp; done) | (simp [*]; done)), H', ⟨by have := HK1.out; omega⟩, ⟨by (with_reducible repeat (first | apply Kd.S_alloc | apply Kd.S_drewN | apply Kd.S_drew)); exact HO184.out⟩, ⟨by (with_reducible repeat (first | apply Kd.V_alloc | apply Kd.V_drewN | apply Kd.V_drew)); exact Kd.V_mono HO180.out (fun _ hk => ⟨hk.1.1, hk.2⟩)⟩, ⟨by repeat (first | (with_reducible first | exact HB.out | apply below_alloc | apply pw_below_drewN | apply below_drew1) | exact HB.out)⟩⟩
                  · rw [if_neg c12] at H
                    exact absurd H (by simp)
                · rw [if_neg c11] at H
                  have c11b0 : (t181 == 0) = false := beq_eq_false_iff_ne.mpr c11
                  have c11b1 : (t181 != 0) = true := bne_iff_ne.mpr c11
                  simp only [Option.some.injEq, Prod.mk.injEq] at H
                  obtain ⟨rfl, rfl⟩ := H
                  obtain ⟨Ao17, co17, eo17⟩ := Kd.V_slice HO_5.out
                  subst eo17
                  go_wp2_with (first | ((with_reducible refine gate_callee (f := 68) rfl ?_); refine goesL_ (some 26) rfl rfl Try.func68 (by kernel_rfl) rfl #[.slice Ao17 x5_1.length co17] rfl (by (try simp only [List.map_toArray, List.map_cons, List.map_nil]); first | done | rfl | (simp only [List.length_drop, List.length_take]; rfl)) ?_; (with_reducible refine (label_part.calls k1 (fun k_ => ((P0_ k_ ∨ w.heap.size ≤ k_) ∧ some k_ ≠ (u4 : Value).ownBlock)) _ _ x5_1 t175 t178 t181 _ ?side1 A10.out).mono ?_); (case side1 => exact HO_5.out); rintro e w18 ⟨v176, v179, rfl, ho0, ho1, hb⟩; refine ⟨_, rfl, ?_⟩; have n0_ := Aside0.mk (Kd.S_elder' (by (with_reducible repeat (first | apply Kd.S_alloc | apply Kd.S_drewN | apply Kd.S_drew)); exact HO_4.out) (Kd.R_base ho0) hb); have n1_ := Aside0.mk (Kd.V_elder' (by (with_reducible repeat (first | apply Kd.V_alloc | apply Kd.V_drewN | apply Kd.V_drew)); exact HO_5.out) (Kd.R_base ho0) hb); have n2_ := Aside0.mk (Kd.R_lower (Kd.R_newM (M := fun k_ => (w.heap.size ≤ k_)) (Kd.R_mono (ok' := fun k_ => True) ho0 (fun _ hk_ => trivial)) (below_size (by repeat (first | (with_reducible first | exact HB.out | apply below_alloc | apply pw_below_drewN | apply below_drew1) | exact HB.out))) (fun k_ h_ => h_)) (below_size (by repeat (first | (with_reducible first | exact HB.out | apply below_alloc | apply pw_below_drewN | apply below_drew1) | exact HB.out)))); have n3_ := Aside0.mk (Kd.V_lower (Kd.V_mono (ok' := fun k_ => (P0_ k_ ∨ w.heap.size ≤ k_) ∧ some k_ ≠ (v176 : Value).ownBlock ∧ some k_ ≠ (u4 : Value).ownBlock) ho1 (fun k_ hk_ => ⟨Or.elim hk_.1 (fun hs_ => hs_.1) (fun hn_ => (.inr (Nat.le_trans (below_size (by repeat (first | (with_reducible first | exact HB.out | apply below_alloc | apply pw_below_drewN | apply below_drew1) | exact HB.out))) hn_))), hk_.2, Or.elim hk_.1 (fun hs_ => hs_.2) (fun hn_ => (Kd.fresh' (Kd.S_lt (by (with_reducible repeat (first | apply Kd.S_alloc | apply Kd.S_drewN | apply Kd.S_drew)); exact HO_4.out)) k_ hn_))⟩)) (below_size (by repeat (first | (with_reducible first | exact HB.out | apply below_alloc | apply pw_below_drewN | apply below_drew1) | exact HB.out)))); have n4_ := Aside0.mk (below_step (by repeat (first | (with_reducible first | exact HB.out | apply below_alloc | apply pw_below_drewN | apply below_drew1) | exact HB.out)) hb); clear HO_4; clear HO_5; clear HB; have HO_4 := n0_; have HO_5 := n1_; have HO177 := n2_; have HO180 := n3_; have HB := n4_; clear n0_ n1_ n2_ n3_ n4_; (try clear hb); (try clear hb2); (try clear hk); (try clear hi); (try clear ho0); (try clear ho1)))
                  go_ret2
                  exact ⟨_, by first | rfl | (simp [errW_none, errW_some] <;> rfl) | (simp [*, errW_none, errW_some] <;> rfl), by first | exact Kd.S_nil _ _ _ _ _ | exact Kd.N_nil _ _ _ _ _ | exact Kd.V_nil _ _ _ _ _ | exact Kd.Q_nil _ _ _ _ _ | exact Kd.R_nil _ _ _ _ _, by repeat (first | (with_reducible first | exact HB.out | apply below_alloc | apply pw_below_drewN | apply below_drew1) | exact HB.out)⟩
              · rw [if_neg c9] at H
                have c9b0 : decide (x22_1 < (rd l0 0)) = false := decide_eq_false c9
                clear c9
                by_cases c19 : (x5_1.length : Int) > 0
                · rw [if_pos c19] at H
                  have c19b0 : decide (0 < (x5_1.length : Int)) = true := decide_eq_true c19
                  have c19b1 : decide (0 < x5_1.length) = true := decide_eq_true (by omega)
                  clear c19
                  simp only [Option.some.injEq, Prod.mk.injEq] at H
                  obtain ⟨rfl, rfl⟩ := H
                  obtain ⟨Ao20, co20, eo20⟩ := Kd.V_slice HO_5.out
                  subst eo20
                  go_wp2
                  go_ret2
                  exact ⟨_, by first | rfl | (simp [errW_none, errW_some] <;> rfl) | (simp [*, errW_none, errW_some] <;> rfl), by first | exact Kd.S_nil _ _ _ _ _ | exact Kd.N_nil _ _ _ _ _ | exact Kd.V_nil _ _ _ _ _ | exact Kd.Q_nil _ _ _ _ _ | exact Kd.R_nil _ _ _ _ _, by repeat (first | (with_reducible first | exact HB.out | apply below_alloc | apply pw_below_drewN | apply below_drew1) | exact HB.out)⟩
                · rw [if_neg c19] at H
                  have c19b0 : decide (0 < (x5_1.length : Int)) = false := decide_eq_false c19
                  have c19b1 : decide (0 < x5_1.length) = false := decide_eq_false (by omega)
                  clear c19
                  simp only [Option.some.injEq, Prod.mk.injEq] at H
                  obtain ⟨rfl, rfl⟩ := H
                  obtain ⟨Ao21, co21, eo21⟩ := Kd.V_slice HO_5.out
                  subst eo21
                  go_wp2
                  go_ret2
                  exact ⟨_, by first | rfl | (simp [errW_none, errW_some] <;> rfl) | (simp [*, errW_none, errW_some] <;> rfl), by (with_reducible repeat (first | apply Kd.S_alloc | apply Kd.S_drewN | apply Kd.S_drew)); exact HO_4.out, by repeat (first | (with_reducible first | exact HB.out | apply below_alloc | apply pw_below_drewN | apply below_drew1) | exact HB.out)⟩
        · rw [if_neg c5] at H
          exact absurd H (by simp)
    · rw [if_neg c3] at H
      exact absurd H (by simp)

/-! ### batonref04_Split: function 23 -/
def batonref04_Split.l0 : Nat → List Int → List (List Int) → Int → Int → Option ((List (List Int)) × Int)
  | 0, _, _, _, _ => none
  | k + 1, x0, x4, x5, x6 => if 0 < (x0.length : Int) then (if x6 < (wrap64 (rd x0 0)) then (if (wrap64 ((x0.length : Int) - x5)) < 4 then (some (([] : List (List Int)), 4)) else (if 0 ≤ x5 then (if x5 < (x0.length : Int) then (if 0 ≤ (wrap64 (x5 + 1)) then (if (wrap64 (x5 + 1)) < (x0.length : Int) then (if 0 ≤ (wrap64 (x5 + 2)) then (if (wrap64 (x5 + 2)) < (x0.length : Int) then (if 0 ≤ (wrap64 (x5 + 3)) then (if (wrap64 (x5 + 3)) < (x0.length : Int) then (if (wrap64 ((wrap64 ((wrap64 ((wrap64 ((wrap64 (rd x0 x5)) * 16777216)) + (wrap64 ((wrap64 (rd x0 (wrap64 (x5 + 1)))) * 65536)))) + (wrap64 ((wrap64 (rd x0 (wrap64 (x5 + 2)))) * 256)))) + (wrap64 (rd x0 (wrap64 (x5 + 3)))))) > 1048576 then (some (([] : List (List Int)), 22)) else (if (wrap64 ((x0.length : Int) - (wrap64 (x5 + 4)))) < (wrap64 ((wrap64 ((wrap64 ((wrap64 ((wrap64 (rd x0 x5)) * 16777216)) + (wrap64 ((wrap64 (rd x0 (wrap64 (x5 + 1)))) * 65536)))) + (wrap64 ((wrap64 (rd x0 (wrap64 (x5 + 2)))) * 256)))) + (wrap64 (rd x0 (wrap64 (x5 + 3)))))) then (some (([] : List (List Int)), 4)) else (if 0 ≤ (wrap64 (x5 + 4)) then (if (wrap64 (x5 + 4)) ≤ (wrap64 ((wrap64 (x5 + 4)) + (wrap64 ((wrap64 ((wrap64 ((wrap64 ((wrap64 (rd x0 x5)) * 16777216)) + (wrap64 ((wrap64 (rd x0 (wrap64 (x5 + 1)))) * 65536)))) + (wrap64 ((wrap64 (rd x0 (wrap64 (x5 + 2)))) * 256)))) + (wrap64 (rd x0 (wrap64 (x5 + 3)))))))) then (if (wrap64 ((wrap64 (x5 + 4)) + (wrap64 ((wrap64 ((wrap64 ((wrap64 ((wrap64 (rd x0 x5)) * 16777216)) + (wrap64 ((wrap64 (rd x0 (wrap64 (x5 + 1)))) * 65536)))) + (wrap64 ((wrap64 (rd x0 (wrap64 (x5 + 2)))) * 256)))) + (wrap64 (rd x0 (wrap64 (x5 + 3)))))))) ≤ (x0.length : Int) then (if x4.length < 5864062014805 then (batonref04_Split.l0 k x0 (x4 ++ [((x0.take ((wrap64 ((wrap64 (x5 + 4)) + (wrap64 ((wrap64 ((wrap64 ((wrap64 ((wrap64 (rd x0 x5)) * 16777216)) + (wrap64 ((wrap64 (rd x0 (wrap64 (x5 + 1)))) * 65536)))) + (wrap64 ((wrap64 (rd x0 (wrap64 (x5 + 2)))) * 256)))) + (wrap64 (rd x0 (wrap64 (x5 + 3)))))))) : Int).toNat).drop ((wrap64 (x5 + 4)) : Int).toNat)]) (wrap64 ((wrap64 (x5 + 4)) + (wrap64 ((wrap64 ((wrap64 ((wrap64 ((wrap64 (rd x0 x5)) * 16777216)) + (wrap64 ((wrap64 (rd x0 (wrap64 (x5 + 1)))) * 65536)))) + (wrap64 ((wrap64 (rd x0 (wrap64 (x5 + 2)))) * 256)))) + (wrap64 (rd x0 (wrap64 (x5 + 3)))))))) (wrap64 (x6 + 1))) else (none)) else (none)) else (none)) else (none)))) else (none)) else (none)) else (none)) else (none)) else (none)) else (none)) else (none)) else (none))) else (if x5 < (x0.length : Int) then (some (([] : List (List Int)), 5)) else (some (x4, 0)))) else (none)
def batonref04_Split.f (k : Nat) (l0 : List Int) : Option ((List (List Int)) × Int) := if (l0.length : Int) = 0 then (some (([] : List (List Int)), 4)) else (if 0 < (l0.length : Int) then (if (rd l0 0) > 64 then (some (([] : List (List Int)), 2)) else (batonref04_Split.l0 k l0 ([] : List (List Int)) 1 0)) else (none))
theorem batonref04_Split.mono_l : ∀ k, (∀ y0 y1 y2 y3, LeO (batonref04_Split.l0 k y0 y1 y2 y3) (batonref04_Split.l0 (k + 1) y0 y1 y2 y3))
  | 0 => fun _ _ _ _ r h => by simp [batonref04_Split.l0] at h
  | k + 1 => by
    have ih0 := batonref04_Split.mono_l k
    · intro y0 y1 y2 y3
      unfold batonref04_Split.l0
      repeat' first
      | (with_reducible exact ih0 _ _ _ _)
      | (with_reducible exact LeO.refl _)
      | (with_reducible exact LeO.none _)
      | (with_reducible refine LeO.ite ?_ ?_)
      | (with_reducible refine LeO.bind ?_ (fun _ => ?_))
      | exact ih0 _ _ _ _
      | exact LeO.none _
      | refine LeO.ite ?_ ?_
      | refine LeO.bind ?_ (fun _ => ?_)
theorem batonref04_Split.mono : ∀ a0 k, LeO (batonref04_Split.f k a0) (batonref04_Split.f (k + 1) a0) := by
  intro a0 k
  have ih0 := batonref04_Split.mono_l k
  unfold batonref04_Split.f
  repeat' first
      | (with_reducible exact ih0 _ _ _ _)
      | (with_reducible exact LeO.refl _)
      | (with_reducible exact LeO.none _)
      | (with_reducible refine LeO.ite ?_ ?_)
      | (with_reducible refine LeO.bind ?_ (fun _ => ?_))
      | exact ih0 _ _ _ _
      | exact LeO.none _
      | refine LeO.ite ?_ ?_
      | refine LeO.bind ?_ (fun _ => ?_)
set_option maxHeartbeats 8000000 in
set_option maxRecDepth 100000 in
theorem batonref04_Split.calls (k : Nat) (P0_ : Nat → Prop) (A0 : Option Addr) (c0 : Nat) (l0 : List Int) (r1 : List (List Int)) (r2 : Int) (w : World) (hs0 : Kd.V (Kd.int .u8) 5 w w.heap.size (fun k_ => P0_ k_) (.slice A0 l0.length c0) l0) (h : batonref04_Split.f k l0 = some (r1, r2)) :
    Calls Try.prog 23 #[.slice A0 l0.length c0] w fun e w' => ∃ v0_ : Value, e = .returned (.tuple #[v0_, .int .i64 r2]) ∧ Kd.N (Kd.slice 5 (Kd.int .u8)) 28 w' w.heap.size (fun k_ => (P0_ k_ ∨ w.heap.size ≤ k_)) v0_ r1 ∧ Below w.heap.size w w' := by
  have HO0 := Aside0.mk (show Kd.V (Kd.int .u8) 5 w w.heap.size (fun k_ => (P0_ k_ ∨ w.heap.size ≤ k_)) (.slice A0 l0.length c0) l0 from Kd.V_mono hs0 (fun k_ hk => .inl hk))
  have HB := Aside0.mk (Below.refl w.heap.size w)
  have H : (if (l0.length : Int) = 0 then (some (([] : List (List Int)), 4)) else (if 0 < (l0.length : Int) then (if (rd l0 0) > 64 then (some (([] : List (List Int)), 2)) else (batonref04_Split.l0 k l0 ([] : List (List Int)) 1 0)) else (none))) = some (r1, r2) := h
  clear h
  by_cases c2 : (l0.length : Int) = 0
  · rw [if_pos c2] at H
    have c2b0 : ((l0.length : Int) == 0) = true := beq_iff_eq.mpr c2
    have c2b1 : ((l0.length : Int) != 0) = false := bne_eq_false_iff_eq.mpr c2
    clear c2
    simp only [Option.some.injEq, Prod.mk.injEq] at H
    obtain ⟨rfl, rfl⟩ := H
    go_enter Try.func23, Try.ntmps23
    go_wp2
    repeat (go_quiet (fail); try go_wp2)
    go_ret2
    exact ⟨_, by first | rfl | (simp [errW_none, errW_some] <;> rfl) | (simp [*, errW_none, errW_some] <;> rfl), by first | exact Kd.S_nil _ _ _ _ _ | exact Kd.N_nil _ _ _ _ _ | exact Kd.V_nil _ _ _ _ _ | exact Kd.Q_nil _ _ _ _ _ | exact Kd.R_nil _ _ _ _ _, by repeat (first | (with_reducible first | exact HB.out | apply below_alloc | apply pw_below_drewN | apply below_drew1) | exact HB.out)⟩
  · rw [if_neg c2] at H
    have c2b0 : ((l0.length : Int) == 0) = false := beq_eq_false_iff_ne.mpr c2
    have c2b1 : ((l0.length : Int) != 0) = true := bne_iff_ne.mpr c2
    have c2b2 : ¬ (l0 = []) := fun h_ => c2 (by rw [h_]; rfl)
    by_cases c3 : 0 < (l0.length : Int)
    · rw [if_pos c3] at H
      have c3b0 : decide (0 < (l0.length : Int)) = true := decide_eq_true c3
      have c3b1 : decide (0 < l0.length) = true := decide_eq_true (by omega)
      clear c3
      by_cases c4 : (rd l0 0) > 64
      · rw [if_pos c4] at H
        have c4b0 : decide (64 < (rd l0 0)) = true := decide_eq_true c4
        clear c4
        simp only [Option.some.injEq, Prod.mk.injEq] at H
        obtain ⟨rfl, rfl⟩ := H
        have p185 : 0 ≤ (0 : Int) := (by omega)
        have q185 : 0 < (l0.length : Int) := of_decide_eq_true (by first | (with_reducible assumption) | assumption)
        obtain ⟨ad185, e185, hx185_0⟩ := Kd.at_int (Kd.V_reads' HO0.out).2.2 0 p185 q185
        cases e185
        have qi185 : (0 < l0.length) = True := eq_true (by omega)
        (try rw [show ((0 : Int)).toNat = 0 from rfl] at hx185_0)
        (try rw [Addr.add_zero'] at hx185_0)
        replace p185 := eq_true p185
        replace q185 := eq_true q185
        go_enter Try.func23, Try.ntmps23
        go_wp2
        repeat (go_quiet (fail); try go_wp2)
        go_ret2
        exact ⟨_, by first | rfl | (simp [errW_none, errW_some] <;> rfl) | (simp [*, errW_none, errW_some] <;> rfl), by first | exact Kd.S_nil _ _ _ _ _ | exact Kd.N_nil _ _ _ _ _ | exact Kd.V_nil _ _ _ _ _ | exact Kd.Q_nil _ _ _ _ _ | exact Kd.R_nil _ _ _ _ _, by repeat (first | (with_reducible first | exact HB.out | apply below_alloc | apply pw_below_drewN | apply below_drew1) | exact HB.out)⟩
      · rw [if_neg c4] at H
        have c4b0 : decide (64 < (rd l0 0)) = false := decide_eq_false c4
        clear c4
        have H' := Aside0.mk H
        clear H
        have p185 : 0 ≤ (0 : Int) := (by omega)
        have q185 : 0 < (l0.length : Int) := of_decide_eq_true (by first | (with_reducible assumption) | assumption)
        obtain ⟨ad185, e185, hx185_0⟩ := Kd.at_int (Kd.V_reads' HO0.out).2.2 0 p185 q185
        cases e185
        have qi185 : (0 < l0.length) = True := eq_true (by omega)
        (try rw [show ((0 : Int)).toNat = 0 from rfl] at hx185_0)
        (try rw [Addr.add_zero'] at hx185_0)
        replace p185 := eq_true p185
        replace q185 := eq_true q185
        go_enter Try.func23, Try.ntmps23
        go_wp2
        repeat (go_quiet (fail); try go_wp2)
        go_loopg [4, 5, 6] k (fun kq v4 v5 v6 w' => ∃ (x4_1 : List (List Int)) (x5_1 : Int) (x6_1 : Int), v5 = .int .i64 x5_1 ∧ v6 = .int .i64 x6_1 ∧ Aside0 (batonref04_Split.l0 kq l0 x4_1 x5_1 x6_1 = some (r1, r2)) ∧ Aside0 (kq ≤ k) ∧ Aside0 (Kd.V (Kd.int .u8) 5 w' w.heap.size (fun k_ => (P0_ k_ ∨ w.heap.size ≤ k_) ∧ some k_ ≠ (v4 : Value).ownBlock) (.slice (some ad185) l0.length c0) l0) ∧ Aside0 (Kd.N (Kd.slice 5 (Kd.int .u8)) 28 w' w.heap.size (fun k_ => (P0_ k_ ∨ w.heap.size ≤ k_)) v4 x4_1) ∧ Aside0 (Below w.heap.size w w'))
        case atStart => exact ⟨(([] : List (List Int))), (1), (0), (by first | rfl | (simp; done) | (simp [*]; done)), (by first | rfl | (simp; done) | (simp [*]; done)), H', ⟨Nat.le_refl _⟩, ⟨by (with_reducible repeat (first | apply Kd.V_alloc | apply Kd.V_drewN | apply Kd.V_drew)); exact Kd.V_mono HO0.out (fun _ hk => ⟨hk, (by simp [Value.ownBlock])⟩)⟩, ⟨by first | exact Kd.S_nil _ _ _ _ _ | exact Kd.N_nil _ _ _ _ _ | exact Kd.V_nil _ _ _ _ _ | exact Kd.Q_nil _ _ _ _ _ | exact Kd.R_nil _ _ _ _ _⟩, ⟨by repeat (first | (with_reducible first | exact HB.out | apply below_alloc | apply pw_below_drewN | apply below_drew1) | exact HB.out)⟩⟩
        case round =>
          clear H'
          try clear p1
          try clear q1
          try clear hx1
          try clear qi1
          try clear c2
          try clear c2b0
          try clear c2b1
          try clear c2b2
          try clear p2
          try clear c3
          try clear c3b0
          try clear c3b1
          try clear c4
          try clear c4b0
          try clear hx185_0
          try clear p185
          try clear q185
          obtain ⟨x4_1, x5_1, x6_1, rfl, rfl, HA, HK1, HO_0, HO_4, HB⟩ := hrel
          cases gk with
          | zero => exact absurd HA.out (by simp [batonref04_Split.l0])
          | succ k1 =>
            have H := HA.out
            clear HA
            simp only [batonref04_Split.l0] at H
            by_cases c5 : 0 < (l0.length : Int)
            · rw [if_pos c5] at H
              have c5b0 : decide (0 < (l0.length : Int)) = true := decide_eq_true c5
              have c5b1 : decide (0 < l0.length) = true := decide_eq_true (by omega)
              clear c5
              by_cases c6 : x6_1 < (wrap64 (rd l0 0))
              · rw [if_pos c6] at H
                have c6b0 : decide (x6_1 < (wrap64 (rd l0 0))) = true := decide_eq_true c6
                clear c6
                by_cases c7 : (wrap64 ((l0.length : Int) - x5_1)) < 4
                · rw [if_pos c7] at H
                  have c7b0 : decide ((wrap64 ((l0.length : Int) - x5_1)) < 4) = true := decide_eq_true c7
                  clear c7
                  simp only [Option.some.injEq, Prod.mk.injEq] at H
                  obtain ⟨rfl, rfl⟩ := H
                  have p186 : 0 ≤ (0 : Int) := (by omega)
                  have q186 : 0 < (l0.length : Int) := of_decide_eq_true (by first | (with_reducible assumption) | assumption)
                  obtain ⟨ad186, e186, hx186_0⟩ := Kd.at_int (Kd.V_reads' HO_0.out).2.2 0 p186 q186
                  obtain rfl : ad185 = ad186 := (by injection e186)
                  have qi186 : (0 < l0.length) = True := eq_true (by omega)
                  (try rw [show ((0 : Int)).toNat = 0 from rfl] at hx186_0)
                  (try rw [Addr.add_zero'] at hx186_0)
                  replace p186 := eq_true p186
                  replace q186 := eq_true q186
                  go_wp2
                  repeat (go_quiet (fail); try go_wp2)
                  go_ret2
                  exact ⟨_, by first | rfl | (simp [errW_none, errW_some] <;> rfl) | (simp [*, errW_none, errW_some] <;> rfl), by first | exact Kd.S_nil _ _ _ _ _ | exact Kd.N_nil _ _ _ _ _ | exact Kd.V_nil _ _ _ _ _ | exact Kd.Q_nil _ _ _ _ _ | exact Kd.R_nil _ _ _ _ _, by repeat (first | (with_reducible first | exact HB.out | apply below_alloc | apply pw_below_drewN | apply below_drew1) | exact HB.out)⟩
                · rw [if_neg c7] at H
                  have c7b0 : decide ((wrap64 ((l0.length : Int) - x5_1)) < 4) = false := decide_eq_false c7
                  clear c7
                  by_cases c8 : 0 ≤ x5_1
                  · rw [if_pos c8] at H
                    have c8b0 : decide (0 ≤ x5_1) = true := decide_eq_true c8
                    clear c8
                    by_cases c9 : x5_1 < (l0.length : Int)
                    · rw [if_pos c9] at H
                      have c9b0 : decide (x5_1 < (l0.length : Int)) = true := decide_eq_true c9
                      clear c9
                      obtain ⟨ji10, hji10⟩ : ∃ j_ : Int, (wrap64 (x5_1 + 1)) = j_ := ⟨_, rfl⟩
                      replace H : (if 0 ≤ (ji10) then (if (ji10) < (l0.length : Int) then (if 0 ≤ (wrap64 (x5_1 + 2)) then (if (wrap64 (x5_1 + 2)) < (l0.length : Int) then (if 0 ≤ (wrap64 (x5_1 + 3)) then (if (wrap64 (x5_1 + 3)) < (l0.length : Int) then (if (wrap64 ((wrap64 ((wrap64 ((wrap64 ((wrap64 (rd l0 x5_1)) * 16777216)) + (wrap64 ((wrap64 (rd l0 (ji10))) * 65536)))) + (wrap64 ((wrap64 (rd l0 (wrap64 (x5_1 + 2)))) * 256)))) + (wrap64 (rd l0 (wrap64 (x5_1 + 3)))))) > 1048576 then (some (([] : List (List Int)), 22)) else (if (wrap64 ((l0.length : Int) - (wrap64 (x5_1 + 4)))) < (wrap64 ((wrap64 ((wrap64 ((wrap64 ((wrap64 (rd l0 x5_1)) * 16777216)) + (wrap64 ((wrap64 (rd l0 (ji10))) * 65536)))) + (wrap64 ((wrap64 (rd l0 (wrap64 (x5_1 + 2)))) * 256)))) + (wrap64 (rd l0 (wrap64 (x5_1 + 3)))))) then (some (([] : List (List Int)), 4)) else (if 0 ≤ (wrap64 (x5_1 + 4)) then (if (wrap64 (x5_1 + 4)) ≤ (wrap64 ((wrap64 (x5_1 + 4)) + (wrap64 ((wrap64 ((wrap64 ((wrap64 ((wrap64 (rd l0 x5_1)) * 16777216)) + (wrap64 ((wrap64 (rd l0 (ji10))) * 65536)))) + (wrap64 ((wrap64 (rd l0 (wrap64 (x5_1 + 2)))) * 256)))) + (wrap64 (rd l0 (wrap64 (x5_1 + 3)))))))) then (if (wrap64 ((wrap64 (x5_1 + 4)) + (wrap64 ((wrap64 ((wrap64 ((wrap64 ((wrap64 (rd l0 x5_1)) * 16777216)) + (wrap64 ((wrap64 (rd l0 (ji10))) * 65536)))) + (wrap64 ((wrap64 (rd l0 (wrap64 (x5_1 + 2)))) * 256)))) + (wrap64 (rd l0 (wrap64 (x5_1 + 3)))))))) ≤ (l0.length : Int) then (if x4_1.length < 5864062014805 then (batonref04_Split.l0 k1 l0 (x4_1 ++ [((l0.take ((wrap64 ((wrap64 (x5_1 + 4)) + (wrap64 ((wrap64 ((wrap64 ((wrap64 ((wrap64 (rd l0 x5_1)) * 16777216)) + (wrap64 ((wrap64 (rd l0 (ji10))) * 65536)))) + (wrap64 ((wrap64 (rd l0 (wrap64 (x5_1 + 2)))) * 256)))) + (wrap64 (rd l0 (wrap64 (x5_1 + 3)))))))) : Int).toNat).drop ((wrap64 (x5_1 + 4)) : Int).toNat)]) (wrap64 ((wrap64 (x5_1 + 4)) + (wrap64 ((wrap64 ((wrap64 ((wrap64 ((wrap64 (rd l0 x5_1)) * 16777216)) + (wrap64 ((wrap64 (rd l0 (ji10))) * 65536)))) + (wrap64 ((wrap64 (rd l0 (wrap64 (x5_1 + 2)))) * 256)))) + (wrap64 (rd l0 (wrap64 (x5_1 + 3)))))))) (wrap64 (x6_1 + 1))) else (none)) else (none)) else (none)) else (none)))) else (none)) else (none)) else (none)) else (none)) else (none)) else (none)) = some (r1, r2) := by first | (rw [hji10] at H; exact H) | (simp only [hji10] at H ⊢; exact H)
                      have hji10w : (IntKind.i64.wrap (x5_1 + 1)) = ji10 := (i64_w _).trans hji10
                      by_cases c11 : 0 ≤ (ji10)
                      · rw [if_pos c11] at H
                        have c11b0 : decide (0 ≤ (ji10)) = true := decide_eq_true c11
                        clear c11
                        by_cases c12 : (ji10) < (l0.length : Int)
                        · rw [if_pos c12] at H
                          have c12b0 : decide ((ji10) < (l0.length : Int)) = true := decide_eq_true c12
                          clear c12
                          obtain ⟨ji13, hji13⟩ : ∃ j_ : Int, (wrap64 (x5_1 + 2)) = j_ := ⟨_, rfl⟩
                          replace H : (if 0 ≤ (ji13) then (if (ji13) < (l0.length : Int) then (if 0 ≤ (wrap64 (x5_1 + 3)) then (if (wrap64 (x5_1 + 3)) < (l0.length : Int) then (if (wrap64 ((wrap64 ((wrap64 ((wrap64 ((wrap64 (rd l0 x5_1)) * 16777216)) + (wrap64 ((wrap64 (rd l0 (ji10))) * 65536)))) + (wrap64 ((wrap64 (rd l0 (ji13))) * 256)))) + (wrap64 (rd l0 (wrap64 (x5_1 + 3)))))) > 1048576 then (some (([] : List (List Int)), 22)) else (if (wrap64 ((l0.length : Int) - (wrap64 (x5_1 + 4)))) < (wrap64 ((wrap64 ((wrap64 ((wrap64 ((wrap64 (rd l0 x5_1)) * 16777216)) + (wrap64 ((wrap64 (rd l0 (ji10))) * 65536)))) + (wrap64 ((wrap64 (rd l0 (ji13))) * 256)))) + (wrap64 (rd l0 (wrap64 (x5_1 + 3)))))) then (some (([] : List (List Int)), 4)) else (if 0 ≤ (wrap64 (x5_1 + 4)) then (if (wrap64 (x5_1 + 4)) ≤ (wrap64 ((wrap64 (x5_1 + 4)) + (wrap64 ((wrap64 ((wrap64 ((wrap64 ((wrap64 (rd l0 x5_1)) * 16777216)) + (wrap64 ((wrap64 (rd l0 (ji10))) * 65536)))) + (wrap64 ((wrap64 (rd l0 (ji13))) * 256)))) + (wrap64 (rd l0 (wrap64 (x5_1 + 3)))))))) then (if (wrap64 ((wrap64 (x5_1 + 4)) + (wrap64 ((wrap64 ((wrap64 ((wrap64 ((wrap64 (rd l0 x5_1)) * 16777216)) + (wrap64 ((wrap64 (rd l0 (ji10))) * 65536)))) + (wrap64 ((wrap64 (rd l0 (ji13))) * 256)))) + (wrap64 (rd l0 (wrap64 (x5_1 + 3)))))))) ≤ (l0.length : Int) then (if x4_1.length < 5864062014805 then (batonref04_Split.l0 k1 l0 (x4_1 ++ [((l0.take ((wrap64 ((wrap64 (x5_1 + 4)) + (wrap64 ((wrap64 ((wrap64 ((wrap64 ((wrap64 (rd l0 x5_1)) * 16777216)) + (wrap64 ((wrap64 (rd l0 (ji10))) * 65536)))) + (wrap64 ((wrap64 (rd l0 (ji13))) * 256)))) + (wrap64 (rd l0 (wrap64 (x5_1 + 3)))))))) : Int).toNat).drop ((wrap64 (x5_1 + 4)) : Int).toNat)]) (wrap64 ((wrap64 (x5_1 + 4)) + (wrap64 ((wrap64 ((wrap64 ((wrap64 ((wrap64 (rd l0 x5_1)) * 16777216)) + (wrap64 ((wrap64 (rd l0 (ji10))) * 65536)))) + (wrap64 ((wrap64 (rd l0 (ji13))) * 256)))) + (wrap64 (rd l0 (wrap64 (x5_1 + 3)))))))) (wrap64 (x6_1 + 1))) else (none)) else (none)) else (none)) else (none)))) else (none)) else (none)) else (none)) else (none)) = some (r1, r2) := by first | (rw [hji13] at H; exact H) | (simp only [hji13] at H ⊢; exact H)
                          have hji13w : (IntKind.i64.wrap (x5_1 + 2)) = ji13 := (i64_w _).trans hji13
                          by_cases c14 : 0 ≤ (ji13)
                          · rw [if_pos c14] at H
                            have c14b0 : decide (0 ≤ (ji13)) = true := decide_eq_true c14
                            clear c14
                            by_cases c15 : (ji13) < (l0.length : Int)
                            · rw [if_pos c15] at H
                              have c15b0 : decide ((ji13) < (l0.length : Int)) = true := decide_eq_true c15
                              clear c15
                              obtain ⟨ji16, hji16⟩ : ∃ j_ : Int, (wrap64 (x5_1 + 3)) = j_ := ⟨_, rfl⟩
                              replace H : (if 0 ≤ (ji16) then (if (ji16) < (l0.length : Int) then (if (wrap64 ((wrap64 ((wrap64 ((wrap64 ((wrap64 (rd l0 x5_1)) * 16777216)) + (wrap64 ((wrap64 (rd l0 (ji10))) * 65536)))) + (wrap64 ((wrap64 (rd l0 (ji13))) * 256)))) + (wrap64 (rd l0 (ji16))))) > 1048576 then (some (([] : List (List Int)), 22)) else (if (wrap64 ((l0.length : Int) - (wrap64 (x5_1 + 4)))) < (wrap64 ((wrap64 ((wrap64 ((wrap64 ((wrap64 (rd l0 x5_1)) * 16777216)) + (wrap64 ((wrap64 (rd l0 (ji10))) * 65536)))) + (wrap64 ((wrap64 (rd l0 (ji13))) * 256)))) + (wrap64 (rd l0 (ji16))))) then (some (([] : List (List Int)), 4)) else (if 0 ≤ (wrap64 (x5_1 + 4)) then (if (wrap64 (x5_1 + 4)) ≤ (wrap64 ((wrap64 (x5_1 + 4)) + (wrap64 ((wrap64 ((wrap64 ((wrap64 ((wrap64 (rd l0 x5_1)) * 16777216)) + (wrap64 ((wrap64 (rd l0 (ji10))) * 65536)))) + (wrap64 ((wrap64 (rd l0 (ji13))) * 256)))) + (wrap64 (rd l0 (ji16))))))) then (if (wrap64 ((wrap64 (x5_1 + 4)) + (wrap64 ((wrap64 ((wrap64 ((wrap64 ((wrap64 (rd l0 x5_1)) * 16777216)) + (wrap64 ((wrap64 (rd l0 (ji10))) * 65536)))) + (wrap64 ((wrap64 (rd l0 (ji13))) * 256)))) + (wrap64 (rd l0 (ji16))))))) ≤ (l0.length : Int) then (if x4_1.length < 5864062014805 then (batonref04_Split.l0 k1 l0 (x4_1 ++ [((l0.take ((wrap64 ((wrap64 (x5_1 + 4)) + (wrap64 ((wrap64 ((wrap64 ((wrap64 ((wrap64 (rd l0 x5_1)) * 16777216)) + (wrap64 ((wrap64 (rd l0 (ji10))) * 65536)))) + (wrap64 ((wrap64 (rd l0 (ji13))) * 256)))) + (wrap64 (rd l0 (ji16))))))) : Int).toNat).drop ((wrap64 (x5_1 + 4)) : Int).toNat)]) (wrap64 ((wrap64 (x5_1 + 4)) + (wrap64 ((wrap64 ((wrap64 ((wrap64 ((wrap64 (rd l0 x5_1)) * 16777216)) + (wrap64 ((wrap64 (rd l0 (ji10))) * 65536)))) + (wrap64 ((wrap64 (rd l0 (ji13))) * 256)))) + (wrap64 (rd l0 (ji16))))))) (wrap64 (x6_1 + 1))) else (none)) else (none)) else (none)) else (none)))) else (none)) else (none)) = some (r1, r2) := by first | (rw [hji16] at H; exact H) | (simp only [hji16] at H ⊢; exact H)
                              have hji16w : (IntKind.i64.wrap (x5_1 + 3)) = ji16 := (i64_w _).trans hji16
                              by_cases c17 : 0 ≤ (ji16)
                              · rw [if_pos c17] at H
                                have c17b0 : decide (0 ≤ (ji16)) = true := decide_eq_true c17
                                clear c17
                                by_cases c18 : (ji16) < (l0.length : Int)
                                · rw [if_pos c18] at H
                                  have c18b0 : decide ((ji16) < (l0.length : Int)) = true := decide_eq_true c18
                                  clear c18
                                  by_cases c19 : (wrap64 ((wrap64 ((wrap64 ((wrap64 ((wrap64 (rd l0 x5_1)) * 16777216)) + (wrap64 ((wrap64 (rd l0 (ji10))) * 65536)))) + (wrap64 ((wrap64 (rd l0 (ji13))) * 256)))) + (wrap64 (rd l0 (ji16))))) > 1048576
                                  · rw [if_pos c19] at H
                                    have c19b0 : decide (1048576 < (wrap64 ((wrap64 ((wrap64 ((wrap64 ((wrap64 (rd l0 x5_1)) * 16777216)) + (wrap64 ((wrap64 (rd l0 (ji10))) * 65536)))) + (wrap64 ((wrap64 (rd l0 (ji13))) * 256)))) + (wrap64 (rd l0 (ji16)))))) = true := decide_eq_true c19
                                    clear c19
                                    simp only [Option.some.injEq, Prod.mk.injEq] at H
                                    obtain ⟨rfl, rfl⟩ := H
                                    have p186 : 0 ≤ (0 : Int) := (by omega)
                                    have q186 : 0 < (l0.length : Int) := of_decide_eq_true (by first | (with_reducible assumption) | assumption)
                                    obtain ⟨ad186, e186, hx186_0⟩ := Kd.at_int (Kd.V_reads' HO_0.out).2.2 0 p186 q186
                                    obtain rfl : ad185 = ad186 := (by injection e186)
                                    have qi186 : (0 < l0.length) = True := eq_true (by omega)
                                    (try rw [show ((0 : Int)).toNat = 0 from rfl] at hx186_0)
                                    (try rw [Addr.add_zero'] at hx186_0)
                                    replace p186 := eq_true p186
                                    replace q186 := eq_true q186
                                    have p187 : 0 ≤ (x5_1 : Int) := of_decide_eq_true (by first | (with_reducible assumption) | assumption)
                                    have q187 : x5_1 < (l0.length : Int) := of_decide_eq_true (by first | (with_reducible assumption) | assumption)
                                    obtain ⟨ad187, e187, hx187_0⟩ := Kd.at_int (Kd.V_reads' HO_0.out).2.2 x5_1 p187 q187
                                    obtain rfl : ad185 = ad187 := (by injection e187)
                                    replace p187 := eq_true p187
                                    replace q187 := eq_true q187
                                    have p188 : 0 ≤ ((ji10) : Int) := of_decide_eq_true (by first | (with_reducible assumption) | assumption)
                                    have q188 : (ji10) < (l0.length : Int) := of_decide_eq_true (by first | (with_reducible assumption) | assumption)
                                    obtain ⟨ad188, e188, hx188_0⟩ := Kd.at_int (Kd.V_reads' HO_0.out).2.2 (ji10) p188 q188
                                    obtain rfl : ad185 = ad188 := (by injection e188)
                                    replace p188 := eq_true p188
                                    replace q188 := eq_true q188
                                    have p189 : 0 ≤ ((ji13) : Int) := of_decide_eq_true (by first | (with_reducible assumption) | assumption)
                                    have q189 : (ji13) < (l0.length : Int) := of_decide_eq_true (by first | (with_reducible assumption) | assumption)
                                    obtain ⟨ad189, e189, hx189_0⟩ := Kd.at_int (Kd.V_reads' HO_0.out).2.2 (ji13) p189 q189
                                    obtain rfl : ad185 = ad189 := (by injection e189)
                                    replace p189 := eq_true p189
                                    replace q189 := eq_true q189
                                    have p190 : 0 ≤ ((ji16) : Int) := of_decide_eq_true (by first | (with_reducible assumption) | assumption)
                                    have q190 : (ji16) < (l0.length : Int) := of_decide_eq_true (by first | (with_reducible assumption) | assumption)
                                    obtain ⟨ad190, e190, hx190_0⟩ := Kd.at_int (Kd.V_reads' HO_0.out).2.2 (ji16) p190 q190
                                    obtain rfl : ad185 = ad190 := (by injection e190)
                                    replace p190 := eq_true p190
                                    replace q190 := eq_true q190
                                    go_wp2
                                    repeat (go_quiet (fail); try go_wp2)
                                    go_ret2
                                    exact ⟨_, by first | rfl | (simp [errW_none, errW_some] <;> rfl) | (simp only [← hji10, ← hji13, ← hji16]; first | rfl | (simp [errW_none, errW_some] <;> rfl)) | (simp [*, errW_none, errW_some] <;> rfl), by first | exact Kd.S_nil _ _ _ _ _ | exact Kd.N_nil _ _ _ _ _ | exact Kd.V_nil _ _ _ _ _ | exact Kd.Q_nil _ _ _ _ _ | exact Kd.R_nil _ _ _ _ _, by repeat (first | (with_reducible first | exact HB.out | apply below_alloc | apply pw_below_drewN | apply below_drew1) | exact HB.out)⟩
                                  · rw [if_neg c19] at H
                                    have c19b0 : decide (1048576 < (wrap64 ((wrap64 ((wrap64 ((wrap64 ((wrap64 (rd l0 x5_1)) * 16777216)) + (wrap64 ((wrap64 (rd l0 (ji10))) * 65536)))) + (wrap64 ((wrap64 (rd l0 (ji13))) * 256)))) + (wrap64 (rd l0 (ji16)))))) = false := decide_eq_false c19
                                    clear c19
                                    by_cases c20 : (wrap64 ((l0.length : Int) - (wrap64 (x5_1 + 4)))) < (wrap64 ((wrap64 ((wrap64 ((wrap64 ((wrap64 (rd l0 x5_1)) * 16777216)) + (wrap64 ((wrap64 (rd l0 (ji10))) * 65536)))) + (wrap64 ((wrap64 (rd l0 (ji13))) * 256)))) + (wrap64 (rd l0 (ji16)))))
                                    · rw [if_pos c20] at H
                                      have c20b0 : decide ((wrap64 ((l0.length : Int) - (wrap64 (x5_1 + 4)))) < (wrap64 ((wrap64 ((wrap64 ((wrap64 ((wrap64 (rd l0 x5_1)) * 16777216)) + (wrap64 ((wrap64 (rd l0 (ji10))) * 65536)))) + (wrap64 ((wrap64 (rd l0 (ji13))) * 256)))) + (wrap64 (rd l0 (ji16)))))) = true := decide_eq_true c20
                                      clear c20
                                      simp only [Option.some.injEq, Prod.mk.injEq] at H
                                      obtain ⟨rfl, rfl⟩ := H
                                      have p186 : 0 ≤ (0 : Int) := (by omega)
                                      have q186 : 0 < (l0.length : Int) := of_decide_eq_true (by first | (with_reducible assumption) | assumption)
                                      obtain ⟨ad186, e186, hx186_0⟩ := Kd.at_int (Kd.V_reads' HO_0.out).2.2 0 p186 q186
                                      obtain rfl : ad185 = ad186 := (by injection e186)
                                      have qi186 : (0 < l0.length) = True := eq_true (by omega)
                                      (try rw [show ((0 : Int)).toNat = 0 from rfl] at hx186_0)
                                      (try rw [Addr.add_zero'] at hx186_0)
                                      replace p186 := eq_true p186
                                      replace q186 := eq_true q186
                                      have p187 : 0 ≤ (x5_1 : Int) := of_decide_eq_true (by first | (with_reducible assumption) | assumption)
                                      have q187 : x5_1 < (l0.length : Int) := of_decide_eq_true (by first | (with_reducible assumption) | assumption)
                                      obtain ⟨ad187, e187, hx187_0⟩ := Kd.at_int (Kd.V_reads' HO_0.out).2.2 x5_1 p187 q187
                                      obtain rfl : ad185 = ad187 := (by injection e187)
                                      replace p187 := eq_true p187
                                      replace q187 := eq_true q187
                                      have p188 : 0 ≤ ((ji10) : Int) := of_decide_eq_true (by first | (with_reducible assumption) | assumption)
                                      have q188 : (ji10) < (l0.length : Int) := of_decide_eq_true (by first | (with_reducible assumption) | assumption)
                                      obtain ⟨ad188, e188, hx188_0⟩ := Kd.at_int (Kd.V_reads' HO_0.out).2.2 (ji10) p188 q188
                                      obtain rfl : ad185 = ad188 := (by injection e188)
                                      replace p188 := eq_true p188
                                      replace q188 := eq_true q188
                                      have p189 : 0 ≤ ((ji13) : Int) := of_decide_eq_true (by first | (with_reducible assumption) | assumption)
                                      have q189 : (ji13) < (l0.length : Int) := of_decide_eq_true (by first | (with_reducible assumption) | assumption)
                                      obtain ⟨ad189, e189, hx189_0⟩ := Kd.at_int (Kd.V_reads' HO_0.out).2.2 (ji13) p189 q189
                                      obtain rfl : ad185 = ad189 := (by injection e189)
                                      replace p189 := eq_true p189
                                      replace q189 := eq_true q189
                                      have p190 : 0 ≤ ((ji16) : Int) := of_decide_eq_true (by first | (with_reducible assumption) | assumption)
                                      have q190 : (ji16) < (l0.length : Int) := of_decide_eq_true (by first | (with_reducible assumption) | assumption)
                                      obtain ⟨ad190, e190, hx190_0⟩ := Kd.at_int (Kd.V_reads' HO_0.out).2.2 (ji16) p190 q190
                                      obtain rfl : ad185 = ad190 := (by injection e190)
                                      replace p190 := eq_true p190
                                      replace q190 := eq_true q190
                                      go_wp2
                                      repeat (go_quiet (fail); try go_wp2)
                                      go_ret2
                                      exact ⟨_, by first | rfl | (simp [errW_none, errW_some] <;> rfl) | (simp only [← hji10, ← hji13, ← hji16]; first | rfl | (simp [errW_none, errW_some] <;> rfl)) | (simp [*, errW_none, errW_some] <;> rfl), by first | exact Kd.S_nil _ _ _ _ _ | exact Kd.N_nil _ _ _ _ _ | exact Kd.V_nil _ _ _ _ _ | exact Kd.Q_nil _ _ _ _ _ | exact Kd.R_nil _ _ _ _ _, by repeat (first | (with_reducible first | exact HB.out | apply below_alloc | apply pw_below_drewN | apply below_drew1) | exact HB.out)⟩
                                    · rw [if_neg c20] at H
                                      have c20b0 : decide ((wrap64 ((l0.length : Int) - (wrap64 (x5_1 + 4)))) < (wrap64 ((wrap64 ((wrap64 ((wrap64 ((wrap64 (rd l0 x5_1)) * 16777216)) + (wrap64 ((wrap64 (rd l0 (ji10))) * 65536)))) + (wrap64 ((wrap64 (rd l0 (ji13))) * 256)))) + (wrap64 (rd l0 (ji16)))))) = false := decide_eq_false c20
                                      clear c20
                                      obtain ⟨ji21, hji21⟩ : ∃ j_ : Int, (wrap64 (x5_1 + 4)) = j_ := ⟨_, rfl⟩
                                      replace H : (if 0 ≤ (ji21) then (if (ji21) ≤ (wrap64 ((ji21) + (wrap64 ((wrap64 ((wrap64 ((wrap64 ((wrap64 (rd l0 x5_1)) * 16777216)) + (wrap64 ((wrap64 (rd l0 (ji10))) * 65536)))) + (wrap64 ((wrap64 (rd l0 (ji13))) * 256)))) + (wrap64 (rd l0 (ji16))))))) then (if (wrap64 ((ji21) + (wrap64 ((wrap64 ((wrap64 ((wrap64 ((wrap64 (rd l0 x5_1)) * 16777216)) + (wrap64 ((wrap64 (rd l0 (ji10))) * 65536)))) + (wrap64 ((wrap64 (rd l0 (ji13))) * 256)))) + (wrap64 (rd l0 (ji16))))))) ≤ (l0.length : Int) then (if x4_1.length < 5864062014805 then (batonref04_Split.l0 k1 l0 (x4_1 ++ [((l0.take ((wrap64 ((ji21) + (wrap64 ((wrap64 ((wrap64 ((wrap64 ((wrap64 (rd l0 x5_1)) * 16777216)) + (wrap64 ((wrap64 (rd l0 (ji10))) * 65536)))) + (wrap64 ((wrap64 (rd l0 (ji13))) * 256)))) + (wrap64 (rd l0 (ji16))))))) : Int).toNat).drop ((ji21) : Int).toNat)]) (wrap64 ((ji21) + (wrap64 ((wrap64 ((wrap64 ((wrap64 ((wrap64 (rd l0 x5_1)) * 16777216)) + (wrap64 ((wrap64 (rd l0 (ji10))) * 65536)))) + (wrap64 ((wrap64 (rd l0 (ji13))) * 256)))) + (wrap64 (rd l0 (ji16))))))) (wrap64 (x6_1 + 1))) else (none)) else (none)) else (none)) else (none)) = some (r1, r2) := by first | (rw [hji21] at H; exact H) | (simp only [hji21] at H ⊢; exact H)
                                      (try rw [hji21] at c20b0)
                                      have hji21w : (IntKind.i64.wrap (x5_1 + 4)) = ji21 := (i64_w _).trans hji21
                                      by_cases c22 : 0 ≤ (ji21)
                                      · rw [if_pos c22] at H
                                        have c22b0 := eq_true c22
                                        have c22b1 : decide (0 ≤ (ji21)) = true := decide_eq_true c22
                                        clear c22
                                        obtain ⟨ji23, hji23⟩ : ∃ j_ : Int, (wrap64 ((ji21) + (wrap64 ((wrap64 ((wrap64 ((wrap64 ((wrap64 (rd l0 x5_1)) * 16777216)) + (wrap64 ((wrap64 (rd l0 (ji10))) * 65536)))) + (wrap64 ((wrap64 (rd l0 (ji13))) * 256)))) + (wrap64 (rd l0 (ji16))))))) = j_ := ⟨_, rfl⟩
                                        replace H : (if (ji21) ≤ (ji23) then (if (ji23) ≤ (l0.length : Int) then (if x4_1.length < 5864062014805 then (batonref04_Split.l0 k1 l0 (x4_1 ++ [((l0.take ((ji23) : Int).toNat).drop ((ji21) : Int).toNat)]) ji23 (wrap64 (x6_1 + 1))) else (none)) else (none)) else (none)) = some (r1, r2) := by first | (rw [hji23] at H; exact H) | (simp only [hji23] at H ⊢; exact H)
                                        have hji23w : (IntKind.i64.wrap ((ji21) + (wrap64 ((wrap64 ((wrap64 ((wrap64 ((wrap64 (rd l0 x5_1)) * 16777216)) + (wrap64 ((wrap64 (rd l0 (ji10))) * 65536)))) + (wrap64 ((wrap64 (rd l0 (ji13))) * 256)))) + (wrap64 (rd l0 (ji16))))))) = ji23 := (i64_w _).trans hji23
                                        by_cases c24 : (ji21) ≤ (ji23)
                                        · rw [if_pos c24] at H
                                          have c24b0 := eq_true c24
                                          have c24b1 : decide ((ji21) ≤ (ji23)) = true := decide_eq_true c24
                                          clear c24
                                          by_cases c25 : (ji23) ≤ (l0.length : Int)
                                          · rw [if_pos c25] at H
                                            have c25b0 := eq_true c25
                                            have c25b1 : decide ((ji23) ≤ (l0.length : Int)) = true := decide_eq_true c25
                                            clear c25
                                            obtain ⟨y191, hy191⟩ : ∃ y_ : List Int, y_ = ((l0.take ((ji23) : Int).toNat).drop ((ji21) : Int).toNat) := ⟨_, rfl⟩
                                            replace H : (if x4_1.length < 5864062014805 then (batonref04_Split.l0 k1 l0 (x4_1 ++ [y191]) ji23 (wrap64 (x6_1 + 1))) else (none)) = some (r1, r2) := by first | (rw [hy191]; with_reducible exact H) | (have H2_ := (Option.bind_some _ _).symm.trans H; rw [hy191]; with_reducible exact H2_) | (have H2_ := (Option.bind_some _ _).symm.trans H; with_reducible exact H2_) | with_reducible exact H | (rw [hy191]; exact H) | exact H
                                            have Ny191 := Aside0.mk hy191
                                            clear hy191
                                            by_cases c26 : x4_1.length < 5864062014805
                                            · rw [if_pos c26] at H
                                              have LMc26 := Aside0.mk c26
                                              clear c26
                                              obtain ⟨y196, hy196⟩ : ∃ y_ : List (List Int), y_ = (x4_1 ++ [y191]) := ⟨_, rfl⟩
                                              replace H : (batonref04_Split.l0 k1 l0 y196 ji23 (wrap64 (x6_1 + 1))) = some (r1, r2) := by first | (rw [hy196]; with_reducible exact H) | (have H2_ := (Option.bind_some _ _).symm.trans H; rw [hy196]; with_reducible exact H2_) | (have H2_ := (Option.bind_some _ _).symm.trans H; with_reducible exact H2_) | with_reducible exact H | (rw [hy196]; exact H) | exact H
                                              have Ny196 := Aside0.mk hy196
                                              clear hy196
                                              have H' := Aside0.mk H
                                              clear H
                                              have p186 : 0 ≤ (0 : Int) := (by omega)
                                              have q186 : 0 < (l0.length : Int) := of_decide_eq_true (by first | (with_reducible assumption) | assumption)
                                              obtain ⟨ad186, e186, hx186_0⟩ := Kd.at_int (Kd.V_reads' HO_0.out).2.2 0 p186 q186
                                              obtain rfl : ad185 = ad186 := (by injection e186)
                                              have qi186 : (0 < l0.length) = True := eq_true (by omega)
                                              (try rw [show ((0 : Int)).toNat = 0 from rfl] at hx186_0)
                                              (try rw [Addr.add_zero'] at hx186_0)
                                              replace p186 := eq_true p186
                                              replace q186 := eq_true q186
                                              have p187 : 0 ≤ (x5_1 : Int) := of_decide_eq_true (by first | (with_reducible assumption) | assumption)
                                              have q187 : x5_1 < (l0.length : Int) := of_decide_eq_true (by first | (with_reducible assumption) | assumption)
                                              obtain ⟨ad187, e187, hx187_0⟩ := Kd.at_int (Kd.V_reads' HO_0.out).2.2 x5_1 p187 q187
                                              obtain rfl : ad185 = ad187 := (by injection e187)
                                              replace p187 := eq_true p187
                                              replace q187 := eq_true q187
                                              have p188 : 0 ≤ ((ji10) : Int) := of_decide_eq_true (by first | (with_reducible assumption) | assumption)
                                              have q188 : (ji10) < (l0.length : Int) := of_decide_eq_true (by first | (with_reducible assumption) | assumption)
                                              obtain ⟨ad188, e188, hx188_0⟩ := Kd.at_int (Kd.V_reads' HO_0.out).2.2 (ji10) p188 q188
                                              obtain rfl : ad185 = ad188 := (by injection e188)
                                              replace p188 := eq_true p188
                                              replace q188 := eq_true q188
                                              have p189 : 0 ≤ ((ji13) : Int) := of_decide_eq_true (by first | (with_reducible assumption) | assumption)
                                              have q189 : (ji13) < (l0.length : Int) := of_decide_eq_true (by first | (with_reducible assumption) | assumption)
                                              obtain ⟨ad189, e189, hx189_0⟩ := Kd.at_int (Kd.V_reads' HO_0.out).2.2 (ji13) p189 q189
                                              obtain rfl : ad185 = ad189 := (by injection e189)
                                              replace p189 := eq_true p189
                                              replace q189 := eq_true q189
                                              have p190 : 0 ≤ ((ji16) : Int) := of_decide_eq_true (by first | (with_reducible assumption) | assumption)
                                              have q190 : (ji16) < (l0.length : Int) := of_decide_eq_true (by first | (with_reducible assumption) | assumption)
                                              obtain ⟨ad190, e190, hx190_0⟩ := Kd.at_int (Kd.V_reads' HO_0.out).2.2 (ji16) p190 q190
                                              obtain rfl : ad185 = ad190 := (by injection e190)
                                              replace p190 := eq_true p190
                                              replace q190 := eq_true q190
                                              have q27 : ((ji23) : Int) ≤ ((l0.length : Int) : Int) := of_decide_eq_true (by first | (with_reducible assumption) | assumption)
                                              obtain ⟨i027, hi027, _, hsz27, _⟩ := info_parts info5
                                              have hroom27 : l0.length ≤ c0 := (Kd.V_reads' HO_0.out).2.1
                                              have hC27 : Kd.F (Kd.int .u8) _ _ (some ad185) l0.length l0 := (Kd.V_at (base := w.heap.size) HO_0.out).2.2
                                              have ql27 : ((ji21) : Int) ≤ ((ji23) : Int) := of_decide_eq_true (by first | (with_reducible assumption) | assumption)
                                              have q027 : (0 : Int) ≤ ((ji21) : Int) := of_decide_eq_true (by first | (with_reducible assumption) | assumption)
                                              have hcut27 := fun kl_ kh_ => cut_mid (P := Try.prog) 28 5 kl_ kh_ Try.underlying28 hi027 1 hsz27 (some ad185) l0.length c0 (ji21) (ji23) q027 ql27 q27 hroom27
                                              have hr27 := Kd.F_mid (lo := ((ji21) : Int).toNat) (hi := ((ji23) : Int).toNat) (c := c0) hC27 (by omega) (by omega) hroom27
                                              obtain ⟨A27, hA27⟩ : ∃ A1, A1 = (if c0 = ((ji21) : Int).toNat then (some ad185) else ((some ad185) : Option Addr).map (·.add (((ji21) : Int).toNat * 1))) := ⟨_, rfl⟩
                                              obtain ⟨c27, hc27⟩ : ∃ c1, c1 = c0 - ((ji21) : Int).toNat := ⟨_, rfl⟩
                                              have hy27 : y191.length = ((ji23) : Int).toNat - ((ji21) : Int).toNat := (by rw [Ny191.out, List.length_drop, List.length_take] <;> omega)
                                              rw [show ((l0).take ((ji23) : Int).toNat).drop ((ji21) : Int).toNat = y191 from Ny191.out.symm] at hr27
                                              replace hr27 : Kd.F (Kd.int .u8) _ _ A27 y191.length y191 := (by rw [hA27]; exact hr27)
                                              rw [← hy27, ← hA27, ← hc27] at hcut27
                                              have HO195 := Aside0.mk (show Kd.V (Kd.int .u8) 5 _ w.heap.size _ (.slice A27 y191.length c27) y191 from Kd.V_mk (by rw [hy27, hc27]; exact Nat.sub_le_sub_right (Nat.le_trans (by omega) hroom27) _) hr27)
                                              have HC195 := Aside0.mk (show y191.length ≤ c27 from by rw [hy27, hc27]; exact Nat.sub_le_sub_right (Nat.le_trans (by omega) hroom27) _)
                                              clear hr27 hC27 hroom27 hi027 hsz27 hc27
                                              have KY27 := Aside0.mk hy27
                                              have KA27 := Aside0.mk hA27
                                              clear hy27 hA27
                                              replace q27 := eq_true q27
                                              go_wp2_with (first | ((with_reducible refine gate_builtin (b := .append) (xs := #[.tmp 67, .tmp 74]) rfl ?_); at_builtin; refine Kd.N_append (Kd.slice 5 (Kd.int .u8)) (w0 := w) w.heap.size rfl (.tmp 67) (.tmp 74) 22 28 (.slice none 0 0) 24 rfl Try.underlying22 info28 rfl (by decide) (by omega) u4 x4_1 y191 [.slice A27 y191.length c27] (fun k_ => (P0_ k_ ∨ w.heap.size ≤ k_)) (fun k_ => ((fun k_ => (P0_ k_ ∨ w.heap.size ≤ k_))) k_ ∧ some k_ ≠ (u4 : Value).ownBlock) rfl rfl ?aP (fun _ hk => hk) ?aF ?aO ?aB ?aS ?aL ?_; (case aP => exact (Kd.FK_slice_mk (Kd.V_reads' (Kd.V_mono (ok' := (fun k_ => ((fun k_ => (P0_ k_ ∨ w.heap.size ≤ k_))) k_ ∧ some k_ ≠ (u4 : Value).ownBlock)) (HO195.out) (fun k_ hk => ⟨hk.1, hk.2⟩))).2.1 (Kd.V_F (by (with_reducible repeat (first | apply Kd.V_alloc | apply Kd.V_drewN | apply Kd.V_drew)); exact (Kd.V_mono (ok' := (fun k_ => ((fun k_ => (P0_ k_ ∨ w.heap.size ≤ k_))) k_ ∧ some k_ ≠ (u4 : Value).ownBlock)) (HO195.out) (fun k_ hk => ⟨hk.1, hk.2⟩)))))); (case aB => exact (by repeat (first | (with_reducible first | exact HB.out | apply below_alloc | apply pw_below_drewN | apply below_drew1) | exact HB.out))); (case aF => exact (fun k_ hk => (.inr (Nat.le_trans (below_size (by repeat (first | (with_reducible first | exact HB.out | apply below_alloc | apply pw_below_drewN | apply below_drew1) | exact HB.out))) hk)))); (case aO => exact (by (with_reducible repeat (first | apply Kd.N_alloc | apply Kd.N_drewN | apply Kd.N_drew)); exact HO_4.out)); (case aS => exact (below_size (by repeat (first | (with_reducible first | exact HB.out | apply below_alloc | apply pw_below_drewN | apply below_drew1) | exact HB.out)))); (case aL => have := LMc26.out; omega); intro v197 w28 ho hb hg hat; rw [← Ny196.out] at ho; have n0_ := Aside0.mk (Kd.V_afterv (ok := (fun k_ => (P0_ k_ ∨ w.heap.size ≤ k_))) (by (with_reducible repeat (first | apply Kd.V_alloc | apply Kd.V_drewN | apply Kd.V_drew)); exact HO_0.out) hg hat); have n1_ := Aside0.mk (Kd.V_afterv (ok := (fun k_ => (P0_ k_ ∨ w.heap.size ≤ k_))) (by (with_reducible repeat (first | apply Kd.V_alloc | apply Kd.V_drewN | apply Kd.V_drew)); exact HO195.out) hg hat); have n2_ := Aside0.mk (hb); have n3_ := Aside0.mk (ho); clear HO_0; clear HO195; clear HB; clear HO_4; have HO_0 := n0_; have HO195 := n1_; have HB := n2_; have HO198 := n3_; clear n0_ n1_ n2_ n3_; clear ho hb hg hat))
                                              repeat (go_quiet (first | ((with_reducible refine gate_builtin (b := .append) (xs := #[.tmp 67, .tmp 74]) rfl ?_); at_builtin; refine Kd.N_append (Kd.slice 5 (Kd.int .u8)) (w0 := w) w.heap.size rfl (.tmp 67) (.tmp 74) 22 28 (.slice none 0 0) 24 rfl Try.underlying22 info28 rfl (by decide) (by omega) u4 x4_1 y191 [.slice A27 y191.length c27] (fun k_ => (P0_ k_ ∨ w.heap.size ≤ k_)) (fun k_ => ((fun k_ => (P0_ k_ ∨ w.heap.size ≤ k_))) k_ ∧ some k_ ≠ (u4 : Value).ownBlock) rfl rfl ?aP (fun _ hk => hk) ?aF ?aO ?aB ?aS ?aL ?_; (case aP => exact (Kd.FK_slice_mk (Kd.V_reads' (Kd.V_mono (ok' := (fun k_ => ((fun k_ => (P0_ k_ ∨ w.heap.size ≤ k_))) k_ ∧ some k_ ≠ (u4 : Value).ownBlock)) (HO195.out) (fun k_ hk => ⟨hk.1, hk.2⟩))).2.1 (Kd.V_F (by (with_reducible repeat (first | apply Kd.V_alloc | apply Kd.V_drewN | apply Kd.V_drew)); exact (Kd.V_mono (ok' := (fun k_ => ((fun k_ => (P0_ k_ ∨ w.heap.size ≤ k_))) k_ ∧ some k_ ≠ (u4 : Value).ownBlock)) (HO195.out) (fun k_ hk => ⟨hk.1, hk.2⟩)))))); (case aB => exact (by repeat (first | (with_reducible first | exact HB.out | apply below_alloc | apply pw_below_drewN | apply below_drew1) | exact HB.out))); (case aF => exact (fun k_ hk => (.inr (Nat.le_trans (below_size (by repeat (first | (with_reducible first | exact HB.out | apply below_alloc | apply pw_below_drewN | apply below_drew1) | exact HB.out))) hk)))); (case aO => exact (by (with_reducible repeat (first | apply Kd.N_alloc | apply Kd.N_drewN | apply Kd.N_drew)); exact HO_4.out)); (case aS => exact (below_size (by repeat (first | (with_reducible first | exact HB.out | apply below_alloc | apply pw_below_drewN | apply below_drew1) | exact HB.out)))); (case aL => have := LMc26.out; omega); intro v197 w28 ho hb hg hat; rw [← Ny196.out] at ho; have n0_ := Aside0.mk (Kd.V_afterv (ok := (fun k_ => (P0_ k_ ∨ w.heap.size ≤ k_))) (by (with_reducible repeat (first | apply Kd.V_alloc | apply Kd.V_drewN | apply Kd.V_drew)); exact HO_0.out) hg hat); have n1_ := Aside0.mk (Kd.V_afterv (ok := (fun k_ => (P0_ k_ ∨ w.heap.size ≤ k_))) (by (with_reducible repeat (first | apply Kd.V_alloc | apply Kd.V_drewN | apply Kd.V_drew)); exact HO195.out) hg hat); have n2_ := Aside0.mk (hb); have n3_ := Aside0.mk (ho); clear HO_0; clear HO195; clear HB; clear HO_4; have HO_0 := n0_; have HO195 := n1_; have HB := n2_; have HO198 := n3_; clear n0_ n1_ n2_ n3_; clear ho hb hg hat)); try go_wp2_with (first | ((with_reducible refine gate_builtin (b := .append) (xs := #[.tmp 67, .tmp 74]) rfl ?_); at_builtin; refine Kd.N_append (Kd.slice 5 (Kd.int .u8)) (w0 := w) w.heap.size rfl (.tmp 67) (.tmp 74) 22 28 (.slice none 0 0) 24 rfl Try.underlying22 info28 rfl (by decide) (by omega) u4 x4_1 y191 [.slice A27 y191.length c27] (fun k_ => (P0_ k_ ∨ w.heap.size ≤ k_)) (fun k_ => ((fun k_ => (P0_ k_ ∨ w.heap.size ≤ k_))) k_ ∧ some k_ ≠ (u4 : Value).ownBlock) rfl rfl ?aP (fun _ hk => hk) ?aF ?aO ?aB ?aS ?aL ?_; (case aP => exact (Kd.FK_slice_mk (Kd.V_reads' (Kd.V_mono (ok' := (fun k_ => ((fun k_ => (P0_ k_ ∨ w.heap.size ≤ k_))) k_ ∧ some k_ ≠ (u4 : Value).ownBlock)) (HO195.out) (fun k_ hk => ⟨hk.1, hk.2⟩))).2.1 (Kd.V_F (by (with_reducible repeat (first | apply Kd.V_alloc | apply Kd.V_drewN | apply Kd.V_drew)); exact (Kd.V_mono (ok' := (fun k_ => ((fun k_ => (P0_ k_ ∨ w.heap.size ≤ k_))) k_ ∧ some k_ ≠ (u4 : Value).ownBlock)) (HO195.out) (fun k_ hk => ⟨hk.1, hk.2⟩)))))); (case aB => exact (by repeat (first | (with_reducible first | exact HB.out | apply below_alloc | apply pw_below_drewN | apply below_drew1) | exact HB.out))); (case aF => exact (fun k_ hk => (.inr (Nat.le_trans (below_size (by repeat (first | (with_reducible first | exact HB.out | apply below_alloc | apply pw_below_drewN | apply below_drew1) | exact HB.out))) hk)))); (case aO => exact (by (with_reducible repeat (first | apply Kd.N_alloc | apply Kd.N_drewN | apply Kd.N_drew)); exact HO_4.out)); (case aS => exact (below_size (by repeat (first | (with_reducible first | exact HB.out | apply below_alloc | apply pw_below_drewN | apply below_drew1) | exact HB.out)))); (case aL => have := LMc26.out; omega); intro v197 w28 ho hb hg hat; rw [← Ny196.out] at ho; have n0_ := Aside0.mk (Kd.V_afterv (ok := (fun k_ => (P0_ k_ ∨ w.heap.size ≤ k_))) (by (with_reducible repeat (first | apply Kd.V_alloc | apply Kd.V_drewN | apply Kd.V_drew)); exact HO_0.out) hg hat); have n1_ := Aside0.mk (Kd.V_afterv (ok := (fun k_ => (P0_ k_ ∨ w.heap.size ≤ k_))) (by (with_reducible repeat (first | apply Kd.V_alloc | apply Kd.V_drewN | apply Kd.V_drew)); exact HO195.out) hg hat); have n2_ := Aside0.mk (hb); have n3_ := Aside0.mk (ho); clear HO_0; clear HO195; clear HB; clear HO_4; have HO_0 := n0_; have HO195 := n1_; have HB := n2_; have HO198 := n3_; clear n0_ n1_ n2_ n3_; clear ho hb hg hat)))
                                              go_roundg k1
                                              case measure => have := HK1.out; omega
                                              case rel => exact ⟨(y196), (ji23), (wrap64 (x6_1 + 1)), (by first | rfl | (simp; done) | (simp only [← hji23] <;> (first | rfl | simp)) | (simp [*]; done)), (by first | rfl | (simp; done) | (simp [*]; done)), H', ⟨by have := HK1.out; omega⟩, ⟨by (with_reducible repeat (first | apply Kd.V_alloc | apply Kd.V_drewN | apply Kd.V_drew)); exact HO_0.out⟩, ⟨by (with_reducible repeat (first | apply Kd.N_alloc | apply Kd.N_drewN | apply Kd.N_drew)); exact HO198.out⟩, ⟨by repeat (first | (with_reducible first | exact HB.out | apply below_alloc | apply pw_below_drewN | apply below_drew1) | exact HB.out)⟩⟩
                                            · rw [if_neg c26] at H
                                              exact absurd H (by simp)
                                          · rw [if_neg c25] at H
                                            exact absurd H (by simp)
                                        · rw [if_neg c24] at H
                                          exact absurd H (by simp)
                                      · rw [if_neg c22] at H
                                        exact absurd H (by simp)
                                · rw [if_neg c18] at H
                                  exact absurd H (by simp)
                              · rw [if_neg c17] at H
                                exact absurd H (by simp)
                            · rw [if_neg c15] at H
                              exact absurd H (by simp)
                          · rw [if_neg c14] at H
                            exact absurd H (by simp)
                        · rw [if_neg c12] at H
                          exact absurd H (by simp)
                      · rw [if_neg c11] at H
                        exact absurd H (by simp)
                    · rw [if_neg c9] at H
                      exact absurd H (by simp)
                  · rw [if_neg c8] at H
                    exact absurd H (by simp)
              · rw [if_neg c6] at H
                have c6b0 : decide (x6_1 < (wrap64 (rd l0 0))) = false := decide_eq_false c6
                clear c6
                by_cases c29 : x5_1 < (l0.length : Int)
                · rw [if_pos c29] at H
                  have c29b0 : decide (x5_1 < (l0.length : Int)) = true := decide_eq_true c29
                  clear c29
                  simp only [Option.some.injEq, Prod.mk.injEq] at H
                  obtain ⟨rfl, rfl⟩ := H
                  have p186 : 0 ≤ (0 : Int) := (by omega)
                  have q186 : 0 < (l0.length : Int) := of_decide_eq_true (by first | (with_reducible assumption) | assumption)
                  obtain ⟨ad186, e186, hx186_0⟩ := Kd.at_int (Kd.V_reads' HO_0.out).2.2 0 p186 q186
                  obtain rfl : ad185 = ad186 := (by injection e186)
                  have qi186 : (0 < l0.length) = True := eq_true (by omega)
                  (try rw [show ((0 : Int)).toNat = 0 from rfl] at hx186_0)
                  (try rw [Addr.add_zero'] at hx186_0)
                  replace p186 := eq_true p186
                  replace q186 := eq_true q186
                  go_wp2
                  repeat (go_quiet (fail); try go_wp2)
                  go_ret2
                  exact ⟨_, by first | rfl | (simp [errW_none, errW_some] <;> rfl) | (simp [*, errW_none, errW_some] <;> rfl), by first | exact Kd.S_nil _ _ _ _ _ | exact Kd.N_nil _ _ _ _ _ | exact Kd.V_nil _ _ _ _ _ | exact Kd.Q_nil _ _ _ _ _ | exact Kd.R_nil _ _ _ _ _, by repeat (first | (with_reducible first | exact HB.out | apply below_alloc | apply pw_below_drewN | apply below_drew1) | exact HB.out)⟩
                · rw [if_neg c29] at H
                  have c29b0 : decide (x5_1 < (l0.length : Int)) = false := decide_eq_false c29
                  clear c29
                  simp only [Option.some.injEq, Prod.mk.injEq] at H
                  obtain ⟨rfl, rfl⟩ := H
                  have p186 : 0 ≤ (0 : Int) := (by omega)
                  have q186 : 0 < (l0.length : Int) := of_decide_eq_true (by first | (with_reducible assumption) | assumption)
                  obtain ⟨ad186, e186, hx186_0⟩ := Kd.at_int (Kd.V_reads' HO_0.out).2.2 0 p186 q186
                  obtain rfl : ad185 = ad186 := (by injection e186)
                  have qi186 : (0 < l0.length) = True := eq_true (by omega)
                  (try rw [show ((0 : Int)).toNat = 0 from rfl] at hx186_0)
                  (try rw [Addr.add_zero'] at hx186_0)
                  replace p186 := eq_true p186
                  replace q186 := eq_true q186
                  go_wp2
                  repeat (go_quiet (fail); try go_wp2)
                  go_ret2
                  exact ⟨_, by first | rfl | (simp [errW_none, errW_some] <;> rfl) | (simp [*, errW_none, errW_some] <;> rfl), by (with_reducible repeat (first | apply Kd.N_alloc | apply Kd.N_drewN | apply Kd.N_drew)); exact HO_4.out, by repeat (first | (with_reducible first | exact HB.out | apply below_alloc | apply pw_below_drewN | apply below_drew1) | exact HB.out)⟩
            · rw [if_neg c5] at H
              exact absurd H (by simp)
    · rw [if_neg c3] at H
      exact absurd H (by simp)

end Go.Proofs.Ythcpfkkddfgamaa.PF04S
