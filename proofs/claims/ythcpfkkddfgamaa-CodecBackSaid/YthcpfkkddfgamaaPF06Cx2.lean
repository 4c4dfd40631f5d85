/- By a program of this session (wip/tool/pp.py): plain Lean functions of the Go functions that this family of laws uses, the walks that the Go code comes to their answers, and the row of the law. No condition beside those that the row itself gives. -/
import Derived.Test.YthcpfkkddfgamaaPF06Cx0
import Derived.Test.YthcpfkkddfgamaaPF06Cx1
namespace Go.Proofs.Ythcpfkkddfgamaa.PF06C
open Go.RowKit Go.Proofs.YthcpfkkddfgamaaW.Hand Go.Proofs.YthcpfkkddfgamaaW.PrintWords Go.Proofs.YthcpfkkddfgamaaW.PrintLast Go.Proofs.YthcpfkkddfgamaaW.PrintMore
attribute [local go_sem] max2_int min2_int max_two min_two max_three min_three max_four min_four   -- for this text's walks alone
set_option linter.unusedVariables false
set_option linter.unusedSimpArgs false

/-! ### codec_Reader_take: function 82 -/
def codec_Reader_take.f (l0_0 : List Int) (a0_1 : Int) (a1 : Int) : Option (List Int × Bool × List Int × Int) := if a0_1 = 0 then (if a1 > (l0_0.length : Int) then ((codec_Reader_Fail.f l0_0 a0_1 4).bind fun bt175 => (some (([] : List Int), false, bt175.1, bt175.2))) else (if 0 ≤ a1 then (if a1 ≤ (l0_0.length : Int) then (some ((l0_0.take (a1 : Int).toNat), true, (l0_0.drop (a1 : Int).toNat), a0_1)) else (none)) else (none))) else ((codec_Reader_Fail.f l0_0 a0_1 4).bind fun bt189 => (some (([] : List Int), false, bt189.1, bt189.2)))
set_option maxHeartbeats 8000000 in
set_option maxRecDepth 100000 in
theorem codec_Reader_take.calls (g : Nat) (P0_0_ : Nat → Prop) (A0_0 : Option Addr) (c0_0 : Nat) (l0_0 : List Int) (a0_1 : Int) (a1 : Int) (r1 : List Int) (r2 : Bool) (r3 : List Int) (r4 : Int) (w0 w : World) (hb : w.heap[g]? = some (.cells #[.slice A0_0 l0_0.length c0_0, .int .i64 a0_1] 119 (0, 0))) (hg : w0.heap.size ≤ g) (hB : Below w0.heap.size w0 w) (hs0_0 : Kd.V (Kd.int .u8) 5 w w0.heap.size (fun k_ => P0_0_ k_ ∧ k_ ≠ g) (.slice A0_0 l0_0.length c0_0) l0_0) (h : codec_Reader_take.f l0_0 a0_1 a1 = some (r1, r2, r3, r4)) :
    Calls Try.prog 82 #[.pointer (some ⟨g, 0, none⟩), .int .i64 a1] w fun e w' => ∃ v0_ v2_ : Value, Aside0 (e = .returned (.tuple #[v0_, .bool r2]) ∧ Kd.V (Kd.int .u8) 5 w' w0.heap.size (fun k_ => (P0_0_ k_ ∨ w.heap.size ≤ k_)) v0_ r1 ∧ Kd.V (Kd.int .u8) 5 w' w0.heap.size (fun k_ => (P0_0_ k_ ∨ w.heap.size ≤ k_)) v2_ r3 ∧ w'.heap[g]? = some (.cells #[v2_, .int .i64 r4] 119 (0, 0)) ∧ Below w0.heap.size w0 w' ∧ Kept w w' (fun k_ => k_ = g)) := by
  have HO0_0 := Aside0.mk (show Kd.V (Kd.int .u8) 5 w w0.heap.size (fun k_ => (P0_0_ k_ ∨ w.heap.size ≤ k_) ∧ k_ ≠ g) (.slice A0_0 l0_0.length c0_0) l0_0 from Kd.V_mono hs0_0 (fun k_ hk => ⟨.inl hk.1, hk.2⟩))
  have HK := Aside0.mk (Kept.refl w (fun k_ => k_ = g))
  have BK0 := Aside0.mk hb
  have GE0 := Aside0.mk hg
  clear hb hg
  have HW0 := Aside0.mk hB.size
  have HB := Aside0.mk hB
  clear hB
  have H : (if a0_1 = 0 then (if a1 > (l0_0.length : Int) then ((codec_Reader_Fail.f l0_0 a0_1 4).bind fun bt175 => (some (([] : List Int), false, bt175.1, bt175.2))) else (if 0 ≤ a1 then (if a1 ≤ (l0_0.length : Int) then (some ((l0_0.take (a1 : Int).toNat), true, (l0_0.drop (a1 : Int).toNat), a0_1)) else (none)) else (none))) else ((codec_Reader_Fail.f l0_0 a0_1 4).bind fun bt189 => (some (([] : List Int), false, bt189.1, bt189.2)))) = some (r1, r2, r3, r4) := h
  clear h
  by_cases c3 : a0_1 = 0
  · rw [if_pos c3] at H
    have c3b0 : (a0_1 == 0) = true := beq_iff_eq.mpr c3
    have c3b1 : (a0_1 != 0) = false := bne_eq_false_iff_eq.mpr c3
    clear c3
    by_cases c4 : a1 > (l0_0.length : Int)
    · rw [if_pos c4] at H
      have c4b0 : decide ((l0_0.length : Int) < a1) = true := decide_eq_true c4
      clear c4
      replace H := Option.bind_eq_some_iff.mp H
      obtain ⟨⟨t175, t178⟩, A50, H⟩ := H
      replace H : (some (([] : List Int), false, t175, t178)) = some (r1, r2, r3, r4) := H
      have A5 := Aside0.mk A50
      clear A50
      simp only [Option.some.injEq, Prod.mk.injEq] at H
      obtain ⟨rfl, rfl, rfl, rfl⟩ := H
      have hcz6_0 : w.cell? ⟨g, 0, none⟩ = some (.slice A0_0 l0_0.length c0_0) := (blk_cell BK0.out 0).trans rfl
      have hcz6_1 : w.cell? ⟨g, 1, none⟩ = some (.int .i64 a0_1) := (blk_cell BK0.out 1).trans rfl
      have hfz6_0 := blk_frozen BK0.out 0
      have hfz6_1 := blk_frozen BK0.out 1
      go_enter Try.func82, Try.ntmps82
      go_wp2_with (first | ((with_reducible refine gate_callee (f := 60) rfl ?_); refine goesL_ (some 22) rfl rfl Try.func60 (by kernel_rfl) rfl #[.pointer (some ⟨g, 0, none⟩), .int .i64 4] rfl (by (try simp only [List.map_toArray, List.map_cons, List.map_nil]); first | done | rfl | (simp only [List.length_drop, List.length_take]; rfl)) ?_; (with_reducible refine (codec_Reader_Fail.calls g (fun k_ => ((P0_0_ k_ ∨ w.heap.size ≤ k_) ∧ k_ ≠ g)) A0_0 c0_0 l0_0 a0_1 4 t175 t178 w0 _ ?side2 ?side3 ?side1 ?side4 A5.out).mono ?_); (case side1 => repeat (first | (with_reducible first | exact HB.out | apply below_alloc | apply pw_below_drewN | apply below_drew1 | refine below_set ?_ GE0.out) | exact HB.out)); (case side2 => (with_reducible repeat (first | refine blk_drewN ?_ _ | refine blk_drew ?_ | refine blk_alloc ?_ _)); exact BK0.out); (case side3 => exact GE0.out); (case side4 => exact Kd.V_mono (HO0_0.out) (fun k_ hk_ => ⟨hk_, hk_.2⟩)); rintro e w7 ⟨v176, rfl, ho0, hbx, hb, hkp⟩; refine ⟨_, rfl, ?_⟩; have n0_ := Aside0.mk (hbx); have n1_ := Aside0.mk (Kd.V_mono (ok' := fun k_ => (P0_0_ k_ ∨ w.heap.size ≤ k_) ∧ k_ ≠ g) (Kd.V_keptB (HO0_0.out) hkp (fun k_ hk_ hs_ => (hk_.2) hs_)) (fun k_ hk_ => ⟨hk_.1.1, hk_.1.2⟩)); have n2_ := Aside0.mk (Kd.V_mono (ok' := fun k_ => (P0_0_ k_ ∨ w.heap.size ≤ k_) ∧ k_ ≠ g) ho0 (fun k_ hk_ => ⟨Or.elim hk_ (fun hs_ => hs_.1) (fun hn_ => (.inr (Nat.le_trans (by first | exact HK.out.1 | exact (show Kept w _ (fun k_ => k_ = g) from by repeat (first | (with_reducible first | exact HK.out | apply Kept.alloc | apply Kept.drewN | apply Kept.drew | refine Kept.setCell ?_ (.inl (show g = g from rfl)) _) | exact HK.out)).1) hn_))), Or.elim hk_ (fun hs_ => hs_.2) (fun hn_ => (Kd.freshB (g := g) (o := .cells #[.slice A0_0 l0_0.length c0_0, .int .i64 a0_1] 119 (0, 0)) (by (with_reducible repeat (first | refine blk_drewN ?_ _ | refine blk_drew ?_ | refine blk_alloc ?_ _)); exact BK0.out) k_ hn_))⟩)); have n3_ := Aside0.mk (Kept.then_ (S := (fun k_ => k_ = g)) (by repeat (first | (with_reducible first | exact HK.out | apply Kept.alloc | apply Kept.drewN | apply Kept.drew | refine Kept.setCell ?_ (.inl (show g = g from rfl)) _) | exact HK.out)) hkp (fun k_ hs_ => (fun e_ => .inl e_) hs_)); have n4_ := Aside0.mk (hb); clear BK0; clear HO0_0; clear HK; clear HB; have BK0 := n0_; have HO0_0 := n1_; have HO177 := n2_; have HK := n3_; have HB := n4_; clear n0_ n1_ n2_ n3_ n4_; (try clear hbx); (try clear hbn); (try clear hgn); (try clear hb); (try clear hkp); (try clear ho0)))
      go_ret2
      exact ⟨_, (v176), by first | rfl | (simp [errW_none, errW_some, ptrW_true, ptrW_false] <;> rfl) | (simp [*, errW_none, errW_some, ptrW_true, ptrW_false] <;> rfl), (Kd.V_nil _ _ _ _ _), by (with_reducible repeat (first | apply Kd.V_alloc | apply Kd.V_drewN | apply Kd.V_drew)); exact Kd.V_mono HO177.out (fun _ hk => hk.1), (by (with_reducible repeat (first | refine blk_drewN ?_ _ | refine blk_drew ?_ | refine blk_alloc ?_ _)); exact BK0.out), by repeat (first | (with_reducible first | exact HB.out | apply below_alloc | apply pw_below_drewN | apply below_drew1 | refine below_set ?_ GE0.out) | exact HB.out), by repeat (first | (with_reducible first | exact HK.out | apply Kept.alloc | apply Kept.drewN | apply Kept.drew | refine Kept.setCell ?_ (.inl (show g = g from rfl)) _) | exact HK.out)⟩
    · rw [if_neg c4] at H
      have c4b0 : decide ((l0_0.length : Int) < a1) = false := decide_eq_false c4
      clear c4
      by_cases c8 : 0 ≤ a1
      · rw [if_pos c8] at H
        have c8b0 := eq_true c8
        have c8b1 : decide (0 ≤ a1) = true := decide_eq_true c8
        clear c8
        by_cases c9 : a1 ≤ (l0_0.length : Int)
        · rw [if_pos c9] at H
          have c9b0 := eq_true c9
          have c9b1 : decide (a1 ≤ (l0_0.length : Int)) = true := decide_eq_true c9
          clear c9
          obtain ⟨y179, hy179⟩ : ∃ y_ : List Int, y_ = (l0_0.take (a1 : Int).toNat) := ⟨_, rfl⟩
          replace H : (some (y179, true, (l0_0.drop (a1 : Int).toNat), a0_1)) = some (r1, r2, r3, r4) := by first | (rw [hy179]; with_reducible exact H) | (have H2_ := (Option.bind_some _ _).symm.trans H; rw [hy179]; with_reducible exact H2_) | (have H2_ := (Option.bind_some _ _).symm.trans H; with_reducible exact H2_) | with_reducible exact H | (rw [hy179]; exact H) | exact H
          have Ny179 := Aside0.mk hy179
          clear hy179
          have c10b0 := eq_true (of_decide_eq_true (by first | (with_reducible assumption) | assumption) : 0 ≤ a1)
          have c11b0 := eq_true (of_decide_eq_true (by first | (with_reducible assumption) | assumption) : a1 ≤ (l0_0.length : Int))
          obtain ⟨y184, hy184⟩ : ∃ y_ : List Int, y_ = (l0_0.drop (a1 : Int).toNat) := ⟨_, rfl⟩
          replace H : (some (y179, true, y184, a0_1)) = some (r1, r2, r3, r4) := by first | (rw [hy184]; with_reducible exact H) | (have H2_ := (Option.bind_some _ _).symm.trans H; rw [hy184]; with_reducible exact H2_) | (have H2_ := (Option.bind_some _ _).symm.trans H; with_reducible exact H2_) | with_reducible exact H | (rw [hy184]; exact H) | exact H
          have Ny184 := Aside0.mk hy184
          clear hy184
          simp only [Option.some.injEq, Prod.mk.injEq] at H
          obtain ⟨rfl, rfl, rfl, rfl⟩ := H
          have hcz12_0 : w.cell? ⟨g, 0, none⟩ = some (.slice A0_0 l0_0.length c0_0) := (blk_cell BK0.out 0).trans rfl
          have hcz12_1 : w.cell? ⟨g, 1, none⟩ = some (.int .i64 a0_1) := (blk_cell BK0.out 1).trans rfl
          have hfz12_0 := blk_frozen BK0.out 0
          have hfz12_1 := blk_frozen BK0.out 1
          have q13 : (a1 : Int) ≤ ((l0_0.length : Int) : Int) := of_decide_eq_true (by first | (with_reducible assumption) | assumption)
          obtain ⟨i013, hi013, _, hsz13, _⟩ := info_parts info5
          have hroom13 : l0_0.length ≤ c0_0 := (Kd.V_reads' HO0_0.out).2.1
          have hC13 : Kd.F (Kd.int .u8) _ _ A0_0 l0_0.length l0_0 := (Kd.V_at (base := w0.heap.size) HO0_0.out).2.2
          have hcut13 := fun kh_ => cut_to (P := Try.prog) 28 5 kh_ Try.underlying28 hi013 A0_0 l0_0.length c0_0 a1 (of_decide_eq_true (by first | (with_reducible assumption) | assumption)) q13 hroom13
          have hr13 := Kd.F_take (m := (a1 : Int).toNat) hC13 (by omega)
          have hy13 : y179.length = (a1 : Int).toNat := (by rw [Ny179.out, List.length_take]; omega)
          rw [← Ny179.out] at hr13
          rw [← hy13] at hcut13
          have HO183 := Aside0.mk (show Kd.V (Kd.int .u8) 5 _ w0.heap.size _ (.slice A0_0 y179.length c0_0) y179 from Kd.V_mk (by omega) hr13)
          have HC183 := Aside0.mk (show y179.length ≤ c0_0 from by omega)
          clear hr13 hC13 hroom13 hi013 hsz13
          have KY13 := Aside0.mk hy13
          clear hy13
          replace q13 := eq_true q13
          have q14 : (a1 : Int) ≤ ((l0_0.length : Int) : Int) := of_decide_eq_true (by first | (with_reducible assumption) | assumption)
          obtain ⟨i014, hi014, _, hsz14, _⟩ := info_parts info5
          have hroom14 : l0_0.length ≤ c0_0 := (Kd.V_reads' HO0_0.out).2.1
          have hC14 : Kd.F (Kd.int .u8) _ _ A0_0 l0_0.length l0_0 := (Kd.V_at (base := w0.heap.size) HO0_0.out).2.2
          have q014 : (0 : Int) ≤ (a1 : Int) := of_decide_eq_true (by first | (with_reducible assumption) | assumption)
          have hcut14 := fun kh_ => cut_from (P := Try.prog) 28 5 kh_ Try.underlying28 hi014 1 hsz14 A0_0 l0_0.length c0_0 a1 q014 q14
          have hr14 := Kd.F_cut (m := (a1 : Int).toNat) (c := c0_0) hC14 (by omega) hroom14
          obtain ⟨A14, hA14⟩ : ∃ A1, A1 = (if c0_0 = (a1 : Int).toNat then A0_0 else (A0_0 : Option Addr).map (·.add ((a1 : Int).toNat * 1))) := ⟨_, rfl⟩
          obtain ⟨c14, hc14⟩ : ∃ c1, c1 = c0_0 - (a1 : Int).toNat := ⟨_, rfl⟩
          have hy14 : y184.length = l0_0.length - (a1 : Int).toNat := (by rw [Ny184.out, List.length_drop] <;> omega)
          rw [show (l0_0).drop (a1 : Int).toNat = y184 from Ny184.out.symm] at hr14
          replace hr14 : Kd.F (Kd.int .u8) _ _ A14 y184.length y184 := (by rw [hA14]; exact hr14)
          rw [← hy14, ← hA14, ← hc14] at hcut14
          have HO188 := Aside0.mk (show Kd.V (Kd.int .u8) 5 _ w0.heap.size _ (.slice A14 y184.length c14) y184 from Kd.V_mk (by rw [hy14, hc14]; exact Nat.sub_le_sub_right hroom14 _) hr14)
          have HC188 := Aside0.mk (show y184.length ≤ c14 from by rw [hy14, hc14]; exact Nat.sub_le_sub_right hroom14 _)
          clear hr14 hC14 hroom14 hi014 hsz14 hc14
          have KY14 := Aside0.mk hy14
          have KA14 := Aside0.mk hA14
          clear hy14 hA14
          replace q14 := eq_true q14
          go_enter Try.func82, Try.ntmps82
          go_wp2
          go_ret2
          exact ⟨_, (.slice A14 y184.length c14), by first | rfl | (simp [errW_none, errW_some, ptrW_true, ptrW_false] <;> rfl) | (simp [*, errW_none, errW_some, ptrW_true, ptrW_false] <;> rfl), by (with_reducible repeat (first | apply Kd.V_alloc | apply Kd.V_drewN | apply Kd.V_drew)); exact Kd.V_mono (Kd.V_far (p := ⟨g, 0, none⟩) (Kd.V_mono HO183.out (fun k_ hk => (⟨hk, hk.2⟩ : _ ∧ k_ ≠ g))) (fun _ hk => hk.2) (.slice A14 y184.length c14)) (fun _ hk => hk.1.1), by (with_reducible repeat (first | apply Kd.V_alloc | apply Kd.V_drewN | apply Kd.V_drew)); exact Kd.V_mono (Kd.V_far (p := ⟨g, 0, none⟩) (Kd.V_mono HO188.out (fun k_ hk => (⟨hk, hk.2⟩ : _ ∧ k_ ≠ g))) (fun _ hk => hk.2) (.slice A14 y184.length c14)) (fun _ hk => hk.1.1), (by (with_reducible repeat (first | refine blk_drewN ?_ _ | refine blk_drew ?_ | refine blk_alloc ?_ _)); refine blk_put (cs := #[.slice A0_0 l0_0.length c0_0, .int .i64 a0_1]) ?_ 0 _ rfl; (with_reducible repeat (first | refine blk_drewN ?_ _ | refine blk_drew ?_ | refine blk_alloc ?_ _)); exact BK0.out), by repeat (first | (with_reducible first | exact HB.out | apply below_alloc | apply pw_below_drewN | apply below_drew1 | refine below_set ?_ GE0.out) | exact HB.out), by repeat (first | (with_reducible first | exact HK.out | apply Kept.alloc | apply Kept.drewN | apply Kept.drew | refine Kept.setCell ?_ (.inl (show g = g from rfl)) _) | exact HK.out)⟩
        · rw [if_neg c9] at H
          exact absurd H (by simp)
      · rw [if_neg c8] at H
        exact absurd H (by simp)
  · rw [if_neg c3] at H
    have c3b0 : (a0_1 == 0) = false := beq_eq_false_iff_ne.mpr c3
    have c3b1 : (a0_1 != 0) = true := bne_iff_ne.mpr c3
    replace H := Option.bind_eq_some_iff.mp H
    obtain ⟨⟨t189, t192⟩, A150, H⟩ := H
    replace H : (some (([] : List Int), false, t189, t192)) = some (r1, r2, r3, r4) := H
    have A15 := Aside0.mk A150
    clear A150
    simp only [Option.some.injEq, Prod.mk.injEq] at H
    obtain ⟨rfl, rfl, rfl, rfl⟩ := H
    have hcz16_0 : w.cell? ⟨g, 0, none⟩ = some (.slice A0_0 l0_0.length c0_0) := (blk_cell BK0.out 0).trans rfl
    have hcz16_1 : w.cell? ⟨g, 1, none⟩ = some (.int .i64 a0_1) := (blk_cell BK0.out 1).trans rfl
    have hfz16_0 := blk_frozen BK0.out 0
    have hfz16_1 := blk_frozen BK0.out 1
    go_enter Try.func82, Try.ntmps82
    go_wp2_with (first | ((with_reducible refine gate_callee (f := 60) rfl ?_); refine goesL_ (some 22) rfl rfl Try.func60 (by kernel_rfl) rfl #[.pointer (some ⟨g, 0, none⟩), .int .i64 4] rfl (by (try simp only [List.map_toArray, List.map_cons, List.map_nil]); first | done | rfl | (simp only [List.length_drop, List.length_take]; rfl)) ?_; (with_reducible refine (codec_Reader_Fail.calls g (fun k_ => ((P0_0_ k_ ∨ w.heap.size ≤ k_) ∧ k_ ≠ g)) A0_0 c0_0 l0_0 a0_1 4 t189 t192 w0 _ ?side2 ?side3 ?side1 ?side4 A15.out).mono ?_); (case side1 => repeat (first | (with_reducible first | exact HB.out | apply below_alloc | apply pw_below_drewN | apply below_drew1 | refine below_set ?_ GE0.out) | exact HB.out)); (case side2 => (with_reducible repeat (first | refine blk_drewN ?_ _ | refine blk_drew ?_ | refine blk_alloc ?_ _)); exact BK0.out); (case side3 => exact GE0.out); (case side4 => exact Kd.V_mono (HO0_0.out) (fun k_ hk_ => ⟨hk_, hk_.2⟩)); rintro e w17 ⟨v190, rfl, ho0, hbx, hb, hkp⟩; refine ⟨_, rfl, ?_⟩; have n0_ := Aside0.mk (hbx); have n1_ := Aside0.mk (Kd.V_mono (ok' := fun k_ => (P0_0_ k_ ∨ w.heap.size ≤ k_) ∧ k_ ≠ g) (Kd.V_keptB (HO0_0.out) hkp (fun k_ hk_ hs_ => (hk_.2) hs_)) (fun k_ hk_ => ⟨hk_.1.1, hk_.1.2⟩)); have n2_ := Aside0.mk (Kd.V_mono (ok' := fun k_ => (P0_0_ k_ ∨ w.heap.size ≤ k_) ∧ k_ ≠ g) ho0 (fun k_ hk_ => ⟨Or.elim hk_ (fun hs_ => hs_.1) (fun hn_ => (.inr (Nat.le_trans (by first | exact HK.out.1 | exact (show Kept w _ (fun k_ => k_ = g) from by repeat (first | (with_reducible first | exact HK.out | apply Kept.alloc | apply Kept.drewN | apply Kept.drew | refine Kept.setCell ?_ (.inl (show g = g from rfl)) _) | exact HK.out)).1) hn_))), Or.elim hk_ (fun hs_ => hs_.2) (fun hn_ => (Kd.freshB (g := g) (o := .cells #[.slice A0_0 l0_0.length c0_0, .int .i64 a0_1] 119 (0, 0)) (by (with_reducible repeat (first | refine blk_drewN ?_ _ | refine blk_drew ?_ | refine blk_alloc ?_ _)); exact BK0.out) k_ hn_))⟩)); have n3_ := Aside0.mk (Kept.then_ (S := (fun k_ => k_ = g)) (by repeat (first | (with_reducible first | exact HK.out | apply Kept.alloc | apply Kept.drewN | apply Kept.drew | refine Kept.setCell ?_ (.inl (show g = g from rfl)) _) | exact HK.out)) hkp (fun k_ hs_ => (fun e_ => .inl e_) hs_)); have n4_ := Aside0.mk (hb); clear BK0; clear HO0_0; clear HK; clear HB; have BK0 := n0_; have HO0_0 := n1_; have HO191 := n2_; have HK := n3_; have HB := n4_; clear n0_ n1_ n2_ n3_ n4_; (try clear hbx); (try clear hbn); (try clear hgn); (try clear hb); (try clear hkp); (try clear ho0)))
    go_ret2
    exact ⟨_, (v190), by first | rfl | (simp [errW_none, errW_some, ptrW_true, ptrW_false] <;> rfl) | (simp [*, errW_none, errW_some, ptrW_true, ptrW_false] <;> rfl), (Kd.V_nil _ _ _ _ _), by (with_reducible repeat (first | apply Kd.V_alloc | apply Kd.V_drewN | apply Kd.V_drew)); exact Kd.V_mono HO191.out (fun _ hk => hk.1), (by (with_reducible repeat (first | refine blk_drewN ?_ _ | refine blk_drew ?_ | refine blk_alloc ?_ _)); exact BK0.out), by repeat (first | (with_reducible first | exact HB.out | apply below_alloc | apply pw_below_drewN | apply below_drew1 | refine below_set ?_ GE0.out) | exact HB.out), by repeat (first | (with_reducible first | exact HK.out | apply Kept.alloc | apply Kept.drewN | apply Kept.drew | refine Kept.setCell ?_ (.inl (show g = g from rfl)) _) | exact HK.out)⟩

/-! ### codec_Reader_Number: function 48 -/
mutual
def codec_Reader_Number.l0 : Nat → Int → Int → List Int → Int → Option (Int × List Int × Int)
  | 0, _, _, _, _ => none
  | k + 1, x3, x7, x1000, x1001 => if x7 < 8 then ((codec_Reader_take.f x1000 x1001 1).bind fun bt197 => (if bt197.2.1 = true then (if 0 < (bt197.1.length : Int) then (if (rd bt197.1 0) = 0 then (codec_Reader_Number.j1 k x3 x7 bt197.1 x7 (decide (x7 > 0)) bt197.2.2.1 bt197.2.2.2) else (codec_Reader_Number.j1 k x3 x7 bt197.1 x7 false bt197.2.2.1 bt197.2.2.2)) else (none)) else (some (0, bt197.2.2.1, bt197.2.2.2)))) else ((codec_Reader_Fail.f x1000 x1001 5).bind fun bt193 => (some (0, bt193.1, bt193.2)))
def codec_Reader_Number.j1 : Nat → Int → Int → List Int → Int → Bool → List Int → Int → Option (Int × List Int × Int)
  | 0, _, _, _, _, _, _, _ => none
  | k + 1, x3, x4, x5, x7, x18, x1000, x1001 => if x18 = true then ((codec_Reader_Fail.f x1000 x1001 6).bind fun bt206 => (some (0, bt206.1, bt206.2))) else (if 0 < (x5.length : Int) then (if 0 ≤ (IntKind.u64.wrap (wrap64 (7 * x4))) then (if (rd x5 0) < 128 then (some (Go.bits .or .i64 x3 (shl .i64 (wrap64 (Go.bits .and .u8 (rd x5 0) 127)) (IntKind.u64.wrap (wrap64 (7 * x4)))), x1000, x1001)) else (codec_Reader_Number.l0 k (Go.bits .or .i64 x3 (shl .i64 (wrap64 (Go.bits .and .u8 (rd x5 0) 127)) (IntKind.u64.wrap (wrap64 (7 * x4))))) (wrap64 (x7 + 1)) x1000 x1001)) else (none)) else (none))
end
def codec_Reader_Number.f (k : Nat) (l0_0 : List Int) (a0_1 : Int) : Option (Int × List Int × Int) := codec_Reader_Number.l0 k 0 0 l0_0 a0_1
theorem codec_Reader_Number.mono_l : ∀ k, (∀ y0 y1 y2 y3, LeO (codec_Reader_Number.l0 k y0 y1 y2 y3) (codec_Reader_Number.l0 (k + 1) y0 y1 y2 y3)) ∧ (∀ y0 y1 y2 y3 y4 y5 y6, LeO (codec_Reader_Number.j1 k y0 y1 y2 y3 y4 y5 y6) (codec_Reader_Number.j1 (k + 1) y0 y1 y2 y3 y4 y5 y6))
  | 0 => ⟨fun _ _ _ _ r h => by simp [codec_Reader_Number.l0] at h, fun _ _ _ _ _ _ _ r h => by simp [codec_Reader_Number.j1] at h⟩
  | k + 1 => by
    obtain ⟨ih0, ih1⟩ := codec_Reader_Number.mono_l k
    refine ⟨?_, ?_⟩
    · intro y0 y1 y2 y3
      unfold codec_Reader_Number.l0
      repeat' first
      | (with_reducible exact ih0 _ _ _ _)
      | (with_reducible exact ih1 _ _ _ _ _ _ _)
      | (with_reducible exact LeO.refl _)
      | (with_reducible exact LeO.none _)
      | (with_reducible refine LeO.ite ?_ ?_)
      | (with_reducible refine LeO.bind ?_ (fun _ => ?_))
      | exact ih0 _ _ _ _
      | exact ih1 _ _ _ _ _ _ _
      | exact LeO.none _
      | refine LeO.ite ?_ ?_
      | refine LeO.bind ?_ (fun _ => ?_)
    · intro y0 y1 y2 y3 y4 y5 y6
      unfold codec_Reader_Number.j1
      repeat' first
      | (with_reducible exact ih0 _ _ _ _)
      | (with_reducible exact ih1 _ _ _ _ _ _ _)
      | (with_reducible exact LeO.refl _)
      | (with_reducible exact LeO.none _)
      | (with_reducible refine LeO.ite ?_ ?_)
      | (with_reducible refine LeO.bind ?_ (fun _ => ?_))
      | exact ih0 _ _ _ _
      | exact ih1 _ _ _ _ _ _ _
      | exact LeO.none _
      | refine LeO.ite ?_ ?_
      | refine LeO.bind ?_ (fun _ => ?_)
theorem codec_Reader_Number.mono : ∀ a0 a1 k, LeO (codec_Reader_Number.f k a0 a1) (codec_Reader_Number.f (k + 1) a0 a1) := by
  intro a0 a1 k
  obtain ⟨ih0, ih1⟩ := codec_Reader_Number.mono_l k
  unfold codec_Reader_Number.f
  repeat' first
      | (with_reducible exact ih0 _ _ _ _)
      | (with_reducible exact ih1 _ _ _ _ _ _ _)
      | (with_reducible exact LeO.refl _)
      | (with_reducible exact LeO.none _)
      | (with_reducible refine LeO.ite ?_ ?_)
      | (with_reducible refine LeO.bind ?_ (fun _ => ?_))
      | exact ih0 _ _ _ _
      | exact ih1 _ _ _ _ _ _ _
      | exact LeO.none _
      | refine LeO.ite ?_ ?_
      | refine LeO.bind ?_ (fun _ => ?_)
set_option maxHeartbeats 8000000 in
set_option maxRecDepth 100000 in
theorem codec_Reader_Number.calls (k : Nat) (g : Nat) (P0_0_ : Nat → Prop) (A0_0 : Option Addr) (c0_0 : Nat) (l0_0 : List Int) (a0_1 : Int) (r1 : Int) (r2 : List Int) (r3 : Int) (w0 w : World) (hb : w.heap[g]? = some (.cells #[.slice A0_0 l0_0.length c0_0, .int .i64 a0_1] 119 (0, 0))) (hg : w0.heap.size ≤ g) (hB : Below w0.heap.size w0 w) (hs0_0 : Kd.V (Kd.int .u8) 5 w w0.heap.size (fun k_ => P0_0_ k_ ∧ k_ ≠ g) (.slice A0_0 l0_0.length c0_0) l0_0) (h : codec_Reader_Number.f k l0_0 a0_1 = some (r1, r2, r3)) :
    Calls Try.prog 48 #[.pointer (some ⟨g, 0, none⟩)] w fun e w' => ∃ v1_ : Value, Aside0 (e = .returned (.int .i64 r1) ∧ Kd.V (Kd.int .u8) 5 w' w0.heap.size (fun k_ => (P0_0_ k_ ∨ w.heap.size ≤ k_)) v1_ r2 ∧ w'.heap[g]? = some (.cells #[v1_, .int .i64 r3] 119 (0, 0)) ∧ Below w0.heap.size w0 w' ∧ Kept w w' (fun k_ => k_ = g)) := by
  have HO0_0 := Aside0.mk (show Kd.V (Kd.int .u8) 5 w w0.heap.size (fun k_ => (P0_0_ k_ ∨ w.heap.size ≤ k_) ∧ k_ ≠ g) (.slice A0_0 l0_0.length c0_0) l0_0 from Kd.V_mono hs0_0 (fun k_ hk => ⟨.inl hk.1, hk.2⟩))
  have HK := Aside0.mk (Kept.refl w (fun k_ => k_ = g))
  have BK0 := Aside0.mk hb
  have GE0 := Aside0.mk hg
  clear hb hg
  have HW0 := Aside0.mk hB.size
  have HB := Aside0.mk hB
  clear hB
  have H : (codec_Reader_Number.l0 k 0 0 l0_0 a0_1) = some (r1, r2, r3) := h
  clear h
  have H' := Aside0.mk H
  clear H
  go_enter Try.func48, Try.ntmps48
  go_wp2
  go_loopg [3, 7] k (fun kq v3 v7 w' => ∃ (x3_1 : Int) (x7_1 : Int) (x1000_1 : List Int) (x1001_1 : Int) (u1000 : Value), v3 = .int .i64 x3_1 ∧ v7 = .int .i64 x7_1 ∧ Aside0 (codec_Reader_Number.l0 kq x3_1 x7_1 x1000_1 x1001_1 = some (r1, r2, r3)) ∧ Aside0 (kq ≤ k) ∧ Aside0 (Kd.V (Kd.int .u8) 5 w' w0.heap.size (fun k_ => (P0_0_ k_ ∨ w.heap.size ≤ k_) ∧ k_ ≠ g) u1000 x1000_1) ∧ Aside0 (w'.heap[g]? = some (.cells #[u1000, .int .i64 x1001_1] 119 (0, 0))) ∧ Aside0 (Kept w w' (fun k_ => k_ = g)) ∧ Aside0 (Below w0.heap.size w0 w'))
  case atStart => exact ⟨(0), (0), (l0_0), (a0_1), (.slice A0_0 l0_0.length c0_0), (by first | rfl | (simp; done) | (simp [*]; done)), (by first | rfl | (simp; done) | (simp [*]; done)), H', ⟨Nat.le_refl _⟩, ⟨by (with_reducible repeat (first | apply Kd.V_alloc | apply Kd.V_drewN | apply Kd.V_drew)); exact HO0_0.out⟩, ⟨by (with_reducible repeat (first | refine blk_drewN ?_ _ | refine blk_drew ?_ | refine blk_alloc ?_ _)); exact BK0.out⟩, ⟨by repeat (first | (with_reducible first | exact HK.out | apply Kept.alloc | apply Kept.drewN | apply Kept.drew | refine Kept.setCell ?_ (.inl (show g = g from rfl)) _) | exact HK.out)⟩, ⟨by repeat (first | (with_reducible first | exact HB.out | apply below_alloc | apply pw_below_drewN | apply below_drew1 | refine below_set ?_ GE0.out) | exact HB.out)⟩⟩
  case round =>
    clear H'
    obtain ⟨x3_1, x7_1, x1000_1, x1001_1, u1000, rfl, rfl, HA, HK1, HO_1000, BK0, HK, HB⟩ := hrel
    cases gk with
    | zero => exact absurd HA.out (by simp [codec_Reader_Number.l0])
    | succ k1 =>
      have H := HA.out
      clear HA
      simp only [codec_Reader_Number.l0] at H
      by_cases c2 : x7_1 < 8
      · rw [if_pos c2] at H
        have c2b0 : decide (x7_1 < 8) = true := decide_eq_true c2
        clear c2
        replace H := Option.bind_eq_some_iff.mp H
        obtain ⟨⟨t197, t200, t201, t204⟩, A30, H⟩ := H
        replace H : (if t200 = true then (if 0 < (t197.length : Int) then (if (rd t197 0) = 0 then (codec_Reader_Number.j1 k1 x3_1 x7_1 t197 x7_1 (decide (x7_1 > 0)) t201 t204) else (codec_Reader_Number.j1 k1 x3_1 x7_1 t197 x7_1 false t201 t204)) else (none)) else (some (0, t201, t204))) = some (r1, r2, r3) := H
        have A3 := Aside0.mk A30
        clear A30
        by_cases c4 : t200 = true
        · subst c4
          have H1 : (if 0 < (t197.length : Int) then (if (rd t197 0) = 0 then (codec_Reader_Number.j1 k1 x3_1 x7_1 t197 x7_1 (decide (x7_1 > 0)) t201 t204) else (codec_Reader_Number.j1 k1 x3_1 x7_1 t197 x7_1 false t201 t204)) else (none)) = some (r1, r2, r3) := by rw [if_pos rfl] at H; exact H
          clear H
          have H := H1
          clear H1
          have HC5 := Aside0.mk H
          clear H
          obtain ⟨Ao6, co6, eo6⟩ := Kd.V_slice HO_1000.out
          subst eo6
          go_upto_region 8 with (first | ((with_reducible refine gate_callee (f := 82) rfl ?_); refine goesL_ (some 12) rfl rfl Try.func82 (by kernel_rfl) rfl #[.pointer (some ⟨g, 0, none⟩), .int .i64 1] rfl (by (try simp only [List.map_toArray, List.map_cons, List.map_nil]); first | done | rfl | (simp only [List.length_drop, List.length_take]; rfl)) ?_; (with_reducible refine (codec_Reader_take.calls g (fun k_ => ((P0_0_ k_ ∨ w.heap.size ≤ k_) ∧ k_ ≠ g)) Ao6 co6 x1000_1 x1001_1 1 t197 true t201 t204 w0 _ ?side2 ?side3 ?side1 ?side4 A3.out).mono ?_); (case side1 => repeat (first | (with_reducible first | exact HB.out | apply below_alloc | apply pw_below_drewN | apply below_drew1 | refine below_set ?_ GE0.out) | exact HB.out)); (case side2 => (with_reducible repeat (first | refine blk_drewN ?_ _ | refine blk_drew ?_ | refine blk_alloc ?_ _)); exact BK0.out); (case side3 => exact GE0.out); (case side4 => exact Kd.V_mono (HO_1000.out) (fun k_ hk_ => ⟨hk_, hk_.2⟩)); rintro e w7 ⟨v198, v202, rfl, ho0, ho1, hbx, hb, hkp⟩; refine ⟨_, rfl, ?_⟩; have n0_ := Aside0.mk (Kd.V_mono (ok' := fun k_ => (P0_0_ k_ ∨ w.heap.size ≤ k_) ∧ k_ ≠ g) (Kd.V_keptB (HO_1000.out) hkp (fun k_ hk_ hs_ => (hk_.2) hs_)) (fun k_ hk_ => ⟨hk_.1.1, hk_.1.2⟩)); have n1_ := Aside0.mk (hbx); have n2_ := Aside0.mk (Kd.V_mono (ok' := fun k_ => (P0_0_ k_ ∨ w.heap.size ≤ k_) ∧ k_ ≠ g) ho0 (fun k_ hk_ => ⟨Or.elim hk_ (fun hs_ => hs_.1) (fun hn_ => (.inr (Nat.le_trans (by first | exact HK.out.1 | exact (show Kept w _ (fun k_ => k_ = g) from by repeat (first | (with_reducible first | exact HK.out | apply Kept.alloc | apply Kept.drewN | apply Kept.drew | refine Kept.setCell ?_ (.inl (show g = g from rfl)) _) | exact HK.out)).1) hn_))), Or.elim hk_ (fun hs_ => hs_.2) (fun hn_ => (Kd.freshB (g := g) (o := .cells #[.slice Ao6 x1000_1.length co6, .int .i64 x1001_1] 119 (0, 0)) (by (with_reducible repeat (first | refine blk_drewN ?_ _ | refine blk_drew ?_ | refine blk_alloc ?_ _)); exact BK0.out) k_ hn_))⟩)); have n3_ := Aside0.mk (Kd.V_mono (ok' := fun k_ => (P0_0_ k_ ∨ w.heap.size ≤ k_) ∧ k_ ≠ g) ho1 (fun k_ hk_ => ⟨Or.elim hk_ (fun hs_ => hs_.1) (fun hn_ => (.inr (Nat.le_trans (by first | exact HK.out.1 | exact (show Kept w _ (fun k_ => k_ = g) from by repeat (first | (with_reducible first | exact HK.out | apply Kept.alloc | apply Kept.drewN | apply Kept.drew | refine Kept.setCell ?_ (.inl (show g = g from rfl)) _) | exact HK.out)).1) hn_))), Or.elim hk_ (fun hs_ => hs_.2) (fun hn_ => (Kd.freshB (g := g) (o := .cells #[.slice Ao6 x1000_1.length co6, .int .i64 x1001_1] 119 (0, 0)) (by (with_reducible repeat (first | refine blk_drewN ?_ _ | refine blk_drew ?_ | refine blk_alloc ?_ _)); exact BK0.out) k_ hn_))⟩)); have n4_ := Aside0.mk (Kept.then_ (S := (fun k_ => k_ = g)) (by repeat (first | (with_reducible first | exact HK.out | apply Kept.alloc | apply Kept.drewN | apply Kept.drew | refine Kept.setCell ?_ (.inl (show g = g from rfl)) _) | exact HK.out)) hkp (fun k_ hs_ => (fun e_ => .inl e_) hs_)); have n5_ := Aside0.mk (hb); clear HO_1000; clear BK0; clear HK; clear HB; have HO_1000 := n0_; have BK0 := n1_; have HO199 := n2_; have HO203 := n3_; have HK := n4_; have HB := n5_; clear n0_ n1_ n2_ n3_ n4_ n5_; (try clear hbx); (try clear hbn); (try clear hgn); (try clear hb); (try clear hkp); (try clear ho0); (try clear ho1)))
          (try simp only [Act.put, List.setIfInBounds_toArray, List.set_cons_zero, List.set_cons_succ])
          go_cut [18] (fun v18 wc => ∃ (kq : Nat) (x18_4 : Bool), v18 = .bool x18_4 ∧ Aside0 (codec_Reader_Number.j1 kq x3_1 x7_1 t197 x7_1 x18_4 t201 t204 = some (r1, r2, r3)) ∧ Aside0 (kq ≤ k1) ∧ Aside0 (Kd.V (Kd.int .u8) 5 wc w0.heap.size (fun k_ => (P0_0_ k_ ∨ w.heap.size ≤ k_) ∧ k_ ≠ g) v198 t197) ∧ Aside0 (Kd.V (Kd.int .u8) 5 wc w0.heap.size (fun k_ => (P0_0_ k_ ∨ w.heap.size ≤ k_) ∧ k_ ≠ g) v202 t201) ∧ Aside0 (wc.heap[g]? = some (.cells #[v202, .int .i64 t204] 119 (0, 0))) ∧ Aside0 (Kept w wc (fun k_ => k_ = g)) ∧ Aside0 (Below w0.heap.size w0 wc))
          case first =>
            have H := HC5.out
            clear HC5
            by_cases c8 : 0 < (t197.length : Int)
            · rw [if_pos c8] at H
              have c8b0 : decide (0 < (t197.length : Int)) = true := decide_eq_true c8
              have c8b1 : decide (0 < t197.length) = true := decide_eq_true (by omega)
              clear c8
              (first | rw [c8b0] | (simp only [i64_w, i32_w]; rw [c8b0]) | rw [c8b1] | rw [c8b2] | skip)
              by_cases c9 : (rd t197 0) = 0
              · rw [if_pos c9] at H
                have c9b0 : ((rd t197 0) == 0) = true := beq_iff_eq.mpr c9
                have c9b1 : ((rd t197 0) != 0) = false := bne_eq_false_iff_eq.mpr c9
                clear c9
                have H' := Aside0.mk H
                clear H
                obtain ⟨Ao10, co10, eo10⟩ := Kd.V_slice HO199.out
                subst eo10
                have p205 : 0 ≤ (0 : Int) := (by omega)
                have q205 : 0 < (t197.length : Int) := of_decide_eq_true (by first | (with_reducible assumption) | assumption)
                obtain ⟨ad205, e205, hx205_0⟩ := Kd.at_int (Kd.V_reads' HO199.out).2.2 0 p205 q205
                cases e205
                have qi205 : (0 < t197.length) = True := eq_true (by omega)
                (try rw [show ((0 : Int)).toNat = 0 from rfl] at hx205_0)
                (try rw [Addr.add_zero'] at hx205_0)
                replace p205 := eq_true p205
                replace q205 := eq_true q205
                go_wp2
                go_meet
                case rel => exact ⟨_, (decide (x7_1 > 0)), (by first | rfl | (simp; done) | (simp [*]; done)), H', ⟨by have := HK1.out; first | omega | exact Nat.le_refl _⟩, ⟨by (with_reducible repeat (first | apply Kd.V_alloc | apply Kd.V_drewN | apply Kd.V_drew)); exact HO199.out⟩, ⟨by (with_reducible repeat (first | apply Kd.V_alloc | apply Kd.V_drewN | apply Kd.V_drew)); exact HO203.out⟩, ⟨by (with_reducible repeat (first | refine blk_drewN ?_ _ | refine blk_drew ?_ | refine blk_alloc ?_ _)); exact BK0.out⟩, ⟨by repeat (first | (with_reducible first | exact HK.out | apply Kept.alloc | apply Kept.drewN | apply Kept.drew | refine Kept.setCell ?_ (.inl (show g = g from rfl)) _) | exact HK.out)⟩, ⟨by repeat (first | (with_reducible first | exact HB.out | apply below_alloc | apply pw_below_drewN | apply below_drew1 | refine below_set ?_ GE0.out) | exact HB.out)⟩⟩
              · rw [if_neg c9] at H
                have c9b0 : ((rd t197 0) == 0) = false := beq_eq_false_iff_ne.mpr c9
                have c9b1 : ((rd t197 0) != 0) = true := bne_iff_ne.mpr c9
                have H' := Aside0.mk H
                clear H
                obtain ⟨Ao11, co11, eo11⟩ := Kd.V_slice HO199.out
                subst eo11
                have p205 : 0 ≤ (0 : Int) := (by omega)
                have q205 : 0 < (t197.length : Int) := of_decide_eq_true (by first | (with_reducible assumption) | assumption)
                obtain ⟨ad205, e205, hx205_0⟩ := Kd.at_int (Kd.V_reads' HO199.out).2.2 0 p205 q205
                cases e205
                have qi205 : (0 < t197.length) = True := eq_true (by omega)
                (try rw [show ((0 : Int)).toNat = 0 from rfl] at hx205_0)
                (try rw [Addr.add_zero'] at hx205_0)
                replace p205 := eq_true p205
                replace q205 := eq_true q205
                go_wp2
                go_meet
                case rel => exact ⟨_, (false), (by first | rfl | (simp; done) | (simp [*]; done)), H', ⟨by have := HK1.out; first | omega | exact Nat.le_refl _⟩, ⟨by (with_reducible repeat (first | apply Kd.V_alloc | apply Kd.V_drewN | apply Kd.V_drew)); exact HO199.out⟩, ⟨by (with_reducible repeat (first | apply Kd.V_alloc | apply Kd.V_drewN | apply Kd.V_drew)); exact HO203.out⟩, ⟨by (with_reducible repeat (first | refine blk_drewN ?_ _ | refine blk_drew ?_ | refine blk_alloc ?_ _)); exact BK0.out⟩, ⟨by repeat (first | (with_reducible first | exact HK.out | apply Kept.alloc | apply Kept.drewN | apply Kept.drew | refine Kept.setCell ?_ (.inl (show g = g from rfl)) _) | exact HK.out)⟩, ⟨by repeat (first | (with_reducible first | exact HB.out | apply below_alloc | apply pw_below_drewN | apply below_drew1 | refine below_set ?_ GE0.out) | exact HB.out)⟩⟩
            · rw [if_neg c8] at H
              exact absurd H (by simp)
          case rest =>
            clear HC5
            try clear c2
            try clear c2b0
            try clear p2
            try clear q2
            try clear hx2
            try clear qi2
            try clear c4
            try clear c8
            try clear c8b0
            try clear c8b1
            try clear c8b2
            try clear c9
            try clear c9b0
            try clear c9b1
            try clear hx205_0
            try clear p205
            try clear q205
            obtain ⟨kq, x18_4, rfl, HA, HJ4, HO_5, HO_1000, BK0, HK, HB⟩ := hcut
            cases kq with
            | zero => exact absurd HA.out (by simp [codec_Reader_Number.j1])
            | succ kj4 =>
              have H := HA.out
              clear HA
              simp only [codec_Reader_Number.j1] at H
              by_cases c12 : x18_4 = true
              · subst c12
                have H1 : ((codec_Reader_Fail.f t201 t204 6).bind fun bt206 => (some (0, bt206.1, bt206.2))) = some (r1, r2, r3) := by rw [if_pos rfl] at H; exact H
                clear H
                have H := H1
                clear H1
                replace H := Option.bind_eq_some_iff.mp H
                obtain ⟨⟨t206, t209⟩, A130, H⟩ := H
                replace H : (some (0, t206, t209)) = some (r1, r2, r3) := H
                have A13 := Aside0.mk A130
                clear A130
                simp only [Option.some.injEq, Prod.mk.injEq] at H
                obtain ⟨rfl, rfl, rfl⟩ := H
                obtain ⟨Ao14, co14, eo14⟩ := Kd.V_slice HO_1000.out
                subst eo14
                go_wp2_with (first | ((with_reducible refine gate_callee (f := 60) rfl ?_); refine goesL_ (some 28) rfl rfl Try.func60 (by kernel_rfl) rfl #[.pointer (some ⟨g, 0, none⟩), .int .i64 6] rfl (by (try simp only [List.map_toArray, List.map_cons, List.map_nil]); first | done | rfl | (simp only [List.length_drop, List.length_take]; rfl)) ?_; (with_reducible refine (codec_Reader_Fail.calls g (fun k_ => ((P0_0_ k_ ∨ w.heap.size ≤ k_) ∧ k_ ≠ g)) Ao14 co14 t201 t204 6 t206 t209 w0 _ ?side2 ?side3 ?side1 ?side4 A13.out).mono ?_); (case side1 => repeat (first | (with_reducible first | exact HB.out | apply below_alloc | apply pw_below_drewN | apply below_drew1 | refine below_set ?_ GE0.out) | exact HB.out)); (case side2 => (with_reducible repeat (first | refine blk_drewN ?_ _ | refine blk_drew ?_ | refine blk_alloc ?_ _)); exact BK0.out); (case side3 => exact GE0.out); (case side4 => exact Kd.V_mono (HO_1000.out) (fun k_ hk_ => ⟨hk_, hk_.2⟩)); rintro e w15 ⟨v207, rfl, ho0, hbx, hb, hkp⟩; refine ⟨_, rfl, ?_⟩; have n0_ := Aside0.mk (Kd.V_mono (ok' := fun k_ => (P0_0_ k_ ∨ w.heap.size ≤ k_) ∧ k_ ≠ g) (Kd.V_keptB (HO_5.out) hkp (fun k_ hk_ hs_ => (hk_.2) hs_)) (fun k_ hk_ => ⟨hk_.1.1, hk_.1.2⟩)); have n1_ := Aside0.mk (Kd.V_mono (ok' := fun k_ => (P0_0_ k_ ∨ w.heap.size ≤ k_) ∧ k_ ≠ g) (Kd.V_keptB (HO_1000.out) hkp (fun k_ hk_ hs_ => (hk_.2) hs_)) (fun k_ hk_ => ⟨hk_.1.1, hk_.1.2⟩)); have n2_ := Aside0.mk (hbx); have n3_ := Aside0.mk (Kd.V_mono (ok' := fun k_ => (P0_0_ k_ ∨ w.heap.size ≤ k_) ∧ k_ ≠ g) ho0 (fun k_ hk_ => ⟨Or.elim hk_ (fun hs_ => hs_.1) (fun hn_ => (.inr (Nat.le_trans (by first | exact HK.out.1 | exact (show Kept w _ (fun k_ => k_ = g) from by repeat (first | (with_reducible first | exact HK.out | apply Kept.alloc | apply Kept.drewN | apply Kept.drew | refine Kept.setCell ?_ (.inl (show g = g from rfl)) _) | exact HK.out)).1) hn_))), Or.elim hk_ (fun hs_ => hs_.2) (fun hn_ => (Kd.freshB (g := g) (o := .cells #[.slice Ao14 t201.length co14, .int .i64 t204] 119 (0, 0)) (by (with_reducible repeat (first | refine blk_drewN ?_ _ | refine blk_drew ?_ | refine blk_alloc ?_ _)); exact BK0.out) k_ hn_))⟩)); have n4_ := Aside0.mk (Kept.then_ (S := (fun k_ => k_ = g)) (by repeat (first | (with_reducible first | exact HK.out | apply Kept.alloc | apply Kept.drewN | apply Kept.drew | refine Kept.setCell ?_ (.inl (show g = g from rfl)) _) | exact HK.out)) hkp (fun k_ hs_ => (fun e_ => .inl e_) hs_)); have n5_ := Aside0.mk (hb); clear HO_5; clear HO_1000; clear BK0; clear HK; clear HB; have HO_5 := n0_; have HO_1000 := n1_; have BK0 := n2_; have HO208 := n3_; have HK := n4_; have HB := n5_; clear n0_ n1_ n2_ n3_ n4_ n5_; (try clear hbx); (try clear hbn); (try clear hgn); (try clear hb); (try clear hkp); (try clear ho0)))
                go_ret
                exact ⟨(v207), by first | rfl | (simp [errW_none, errW_some, ptrW_true, ptrW_false] <;> rfl) | (simp [*, errW_none, errW_some, ptrW_true, ptrW_false] <;> rfl), by (with_reducible repeat (first | apply Kd.V_alloc | apply Kd.V_drewN | apply Kd.V_drew)); exact Kd.V_mono HO208.out (fun _ hk => hk.1), (by (with_reducible repeat (first | refine blk_drewN ?_ _ | refine blk_drew ?_ | refine blk_alloc ?_ _)); exact BK0.out), by repeat (first | (with_reducible first | exact HB.out | apply below_alloc | apply pw_below_drewN | apply below_drew1 | refine below_set ?_ GE0.out) | exact HB.out), by repeat (first | (with_reducible first | exact HK.out | apply Kept.alloc | apply Kept.drewN | apply Kept.drew | refine Kept.setCell ?_ (.inl (show g = g from rfl)) _) | exact HK.out)⟩
              · replace c12 := Bool.eq_false_iff.mpr c12
                subst c12
                have H1 : (if 0 < (t197.length : Int) then (if 0 ≤ (IntKind.u64.wrap (wrap64 (7 * x7_1))) then (if (rd t197 0) < 128 then (some (Go.bits .or .i64 x3_1 (shl .i64 (wrap64 (Go.bits .and .u8 (rd t197 0) 127)) (IntKind.u64.wrap (wrap64 (7 * x7_1)))), t201, t204)) else (codec_Reader_Number.l0 kj4 (Go.bits .or .i64 x3_1 (shl .i64 (wrap64 (Go.bits .and .u8 (rd t197 0) 127)) (IntKind.u64.wrap (wrap64 (7 * x7_1))))) (wrap64 (x7_1 + 1)) t201 t204)) else (none)) else (none)) = some (r1, r2, r3) := by rw [if_neg (show ¬ (false = true) by decide)] at H; exact H
                clear H
                have H := H1
                clear H1
                by_cases c16 : 0 < (t197.length : Int)
                · rw [if_pos c16] at H
                  have c16b0 : decide (0 < (t197.length : Int)) = true := decide_eq_true c16
                  have c16b1 : decide (0 < t197.length) = true := decide_eq_true (by omega)
                  clear c16
                  obtain ⟨ji17, hji17⟩ : ∃ j_ : Int, (IntKind.u64.wrap (wrap64 (7 * x7_1))) = j_ := ⟨_, rfl⟩
                  replace H : (if 0 ≤ (ji17) then (if (rd t197 0) < 128 then (some (Go.bits .or .i64 x3_1 (shl .i64 (wrap64 (Go.bits .and .u8 (rd t197 0) 127)) (ji17)), t201, t204)) else (codec_Reader_Number.l0 kj4 (Go.bits .or .i64 x3_1 (shl .i64 (wrap64 (Go.bits .and .u8 (rd t197 0) 127)) (ji17))) (wrap64 (x7_1 + 1)) t201 t204)) else (none)) = some (r1, r2, r3) := by first | (rw [hji17] at H; exact H) | (simp only [hji17] at H ⊢; exact H)
                  by_cases c18 : 0 ≤ (ji17)
                  · rw [if_pos c18] at H
                    have c18b0 := eq_true c18
                    have c18b1 : decide (0 ≤ (ji17)) = true := decide_eq_true c18
                    clear c18
                    obtain ⟨ji19, hji19⟩ : ∃ j_ : Int, (shl .i64 (wrap64 (Go.bits .and .u8 (rd t197 0) 127)) (ji17)) = j_ := ⟨_, rfl⟩
                    replace H : (if (rd t197 0) < 128 then (some (Go.bits .or .i64 x3_1 (ji19), t201, t204)) else (codec_Reader_Number.l0 kj4 (Go.bits .or .i64 x3_1 (ji19)) (wrap64 (x7_1 + 1)) t201 t204)) = some (r1, r2, r3) := by first | (rw [hji19] at H; exact H) | (simp only [hji19] at H ⊢; exact H)
                    have hji19_ : (IntKind.i64.wrap ((wrap64 (Go.bits .and .u8 (rd t197 0) 127)) * 2 ^ min (ji17).toNat 64)) = ji19 := hji19
                    have hji19z : (ji17) ≤ 64 → (IntKind.i64.wrap ((wrap64 (Go.bits .and .u8 (rd t197 0) 127)) * 2 ^ (ji17).toNat)) = ji19 := shl_small hji19
                    have hji19y : (wrap64 ((wrap64 (Go.bits .and .u8 (rd t197 0) 127)) * 2 ^ min (ji17).toNat 64)) = ji19 := (i64_w _).symm.trans hji19_
                    have hji19x : (ji17) ≤ 64 → (wrap64 ((wrap64 (Go.bits .and .u8 (rd t197 0) 127)) * 2 ^ (ji17).toNat)) = ji19 := fun h_ => (i64_w _).symm.trans (hji19z h_)
                    by_cases c20 : (rd t197 0) < 128
                    · rw [if_pos c20] at H
                      have c20b0 : decide ((rd t197 0) < 128) = true := decide_eq_true c20
                      clear c20
                      simp only [Option.some.injEq, Prod.mk.injEq] at H
                      obtain ⟨rfl, rfl, rfl⟩ := H
                      obtain ⟨Ao21, co21, eo21⟩ := Kd.V_slice HO_5.out
                      subst eo21
                      have p210 : 0 ≤ (0 : Int) := (by omega)
                      have q210 : 0 < (t197.length : Int) := of_decide_eq_true (by first | (with_reducible assumption) | assumption)
                      obtain ⟨ad210, e210, hx210_0⟩ := Kd.at_int (Kd.V_reads' HO_5.out).2.2 0 p210 q210
                      cases e210
                      have qi210 : (0 < t197.length) = True := eq_true (by omega)
                      (try rw [show ((0 : Int)).toNat = 0 from rfl] at hx210_0)
                      (try rw [Addr.add_zero'] at hx210_0)
                      replace p210 := eq_true p210
                      replace q210 := eq_true q210
                      have p211 : 0 ≤ (0 : Int) := (by omega)
                      have q211 : 0 < (t197.length : Int) := of_decide_eq_true (by first | (with_reducible assumption) | assumption)
                      obtain ⟨ad211, e211, hx211_0⟩ := Kd.at_int (Kd.V_reads' HO_5.out).2.2 0 p211 q211
                      obtain rfl : ad210 = ad211 := (by injection e211)
                      have qi211 : (0 < t197.length) = True := eq_true (by omega)
                      (try rw [show ((0 : Int)).toNat = 0 from rfl] at hx211_0)
                      (try rw [Addr.add_zero'] at hx211_0)
                      replace p211 := eq_true p211
                      replace q211 := eq_true q211
                      go_wp2
                      go_ret
                      exact ⟨(v202), by first | rfl | (simp [errW_none, errW_some, ptrW_true, ptrW_false] <;> rfl) | (simp only [← hji17, ← hji19]; first | rfl | (simp [errW_none, errW_some, ptrW_true, ptrW_false] <;> rfl)) | (simp [*, errW_none, errW_some, ptrW_true, ptrW_false] <;> rfl), by (with_reducible repeat (first | apply Kd.V_alloc | apply Kd.V_drewN | apply Kd.V_drew)); exact Kd.V_mono HO_1000.out (fun _ hk => hk.1), (by (with_reducible repeat (first | refine blk_drewN ?_ _ | refine blk_drew ?_ | refine blk_alloc ?_ _)); exact BK0.out), by repeat (first | (with_reducible first | exact HB.out | apply below_alloc | apply pw_below_drewN | apply below_drew1 | refine below_set ?_ GE0.out) | exact HB.out), by repeat (first | (with_reducible first | exact HK.out | apply Kept.alloc | apply Kept.drewN | apply Kept.drew | refine Kept.setCell ?_ (.inl (show g = g from rfl)) _) | exact HK.out)⟩
                    · rw [if_neg c20] at H
                      have c20b0 : decide ((rd t197 0) < 128) = false := decide_eq_false c20
                      clear c20
                      have H' := Aside0.mk H
                      clear H
                      obtain ⟨Ao22, co22, eo22⟩ := Kd.V_slice HO_5.out
                      subst eo22
                      have p210 : 0 ≤ (0 : Int) := (by omega)
                      have q210 : 0 < (t197.length : Int) := of_decide_eq_true (by first | (with_reducible assumption) | assumption)
                      obtain ⟨ad210, e210, hx210_0⟩ := Kd.at_int (Kd.V_reads' HO_5.out).2.2 0 p210 q210
                      cases e210
                      have qi210 : (0 < t197.length) = True := eq_true (by omega)
                      (try rw [show ((0 : Int)).toNat = 0 from rfl] at hx210_0)
                      (try rw [Addr.add_zero'] at hx210_0)
                      replace p210 := eq_true p210
                      replace q210 := eq_true q210
                      have p211 : 0 ≤ (0 : Int) := (by omega)
                      have q211 : 0 < (t197.length : Int) := of_decide_eq_true (by first | (with_reducible assumption) | assumption)
                      obtain ⟨ad211, e211, hx211_0⟩ := Kd.at_int (Kd.V_reads' HO_5.out).2.2 0 p211 q211
                      obtain rfl : ad210 = ad211 := (by injection e211)
                      have qi211 : (0 < t197.length) = True := eq_true (by omega)
                      (try rw [show ((0 : Int)).toNat = 0 from rfl] at hx211_0)
                      (try rw [Addr.add_zero'] at hx211_0)
                      replace p211 := eq_true p211
                      replace q211 := eq_true q211
                      go_wp2
                      go_roundg kj4
                      case measure => have := HK1.out; have := HJ4.out; omega
                      case rel => exact ⟨(Go.bits .or .i64 x3_1 (ji19)), (wrap64 (x7_1 + 1)), (t201), (t204), (v202), (by first | rfl | (simp; done) | (simp only [← hji19] <;> (first | rfl | simp)) | (simp [*]; done)), (by first | rfl | (simp; done) | (simp [*]; done)), H', ⟨by have := HK1.out; have := HJ4.out; omega⟩, ⟨by (with_reducible repeat (first | apply Kd.V_alloc | apply Kd.V_drewN | apply Kd.V_drew)); exact HO_1000.out⟩, ⟨by (with_reducible repeat (first | refine blk_drewN ?_ _ | refine blk_drew ?_ | refine blk_alloc ?_ _)); exact BK0.out⟩, ⟨by repeat (first | (with_reducible first | exact HK.out | apply Kept.alloc | apply Kept.drewN | apply Kept.drew | refine Kept.setCell ?_ (.inl (show g = g from rfl)) _) | exact HK.out)⟩, ⟨by repeat (first | (with_reducible first | exact HB.out | apply below_alloc | apply pw_below_drewN | apply below_drew1 | refine below_set ?_ GE0.out) | exact HB.out)⟩⟩
                  · rw [if_neg c18] at H
                    exact absurd H (by simp)
                · rw [if_neg c16] at H
                  exact absurd H (by simp)
        · replace c4 := Bool.eq_false_iff.mpr c4
          subst c4
          have H1 : (some (0, t201, t204)) = some (r1, r2, r3) := by rw [if_neg (show ¬ (false = true) by decide)] at H; exact H
          clear H
          have H := H1
          clear H1
          simp only [Option.some.injEq, Prod.mk.injEq] at H
          obtain ⟨rfl, rfl, rfl⟩ := H
          obtain ⟨Ao23, co23, eo23⟩ := Kd.V_slice HO_1000.out
          subst eo23
          go_wp2_with (first | ((with_reducible refine gate_callee (f := 82) rfl ?_); refine goesL_ (some 12) rfl rfl Try.func82 (by kernel_rfl) rfl #[.pointer (some ⟨g, 0, none⟩), .int .i64 1] rfl (by (try simp only [List.map_toArray, List.map_cons, List.map_nil]); first | done | rfl | (simp only [List.length_drop, List.length_take]; rfl)) ?_; (with_reducible refine (codec_Reader_take.calls g (fun k_ => ((P0_0_ k_ ∨ w.heap.size ≤ k_) ∧ k_ ≠ g)) Ao23 co23 x1000_1 x1001_1 1 t197 false t201 t204 w0 _ ?side2 ?side3 ?side1 ?side4 A3.out).mono ?_); (case side1 => repeat (first | (with_reducible first | exact HB.out | apply below_alloc | apply pw_below_drewN | apply below_drew1 | refine below_set ?_ GE0.out) | exact HB.out)); (case side2 => (with_reducible repeat (first | refine blk_drewN ?_ _ | refine blk_drew ?_ | refine blk_alloc ?_ _)); exact BK0.out); (case side3 => exact GE0.out); (case side4 => exact Kd.V_mono (HO_1000.out) (fun k_ hk_ => ⟨hk_, hk_.2⟩)); rintro e w24 ⟨v198, v202, rfl, ho0, ho1, hbx, hb, hkp⟩; refine ⟨_, rfl, ?_⟩; have n0_ := Aside0.mk (Kd.V_mono (ok' := fun k_ => (P0_0_ k_ ∨ w.heap.size ≤ k_) ∧ k_ ≠ g) (Kd.V_keptB (HO_1000.out) hkp (fun k_ hk_ hs_ => (hk_.2) hs_)) (fun k_ hk_ => ⟨hk_.1.1, hk_.1.2⟩)); have n1_ := Aside0.mk (hbx); have n2_ := Aside0.mk (Kd.V_mono (ok' := fun k_ => (P0_0_ k_ ∨ w.heap.size ≤ k_) ∧ k_ ≠ g) ho0 (fun k_ hk_ => ⟨Or.elim hk_ (fun hs_ => hs_.1) (fun hn_ => (.inr (Nat.le_trans (by first | exact HK.out.1 | exact (show Kept w _ (fun k_ => k_ = g) from by repeat (first | (with_reducible first | exact HK.out | apply Kept.alloc | apply Kept.drewN | apply Kept.drew | refine Kept.setCell ?_ (.inl (show g = g from rfl)) _) | exact HK.out)).1) hn_))), Or.elim hk_ (fun hs_ => hs_.2) (fun hn_ => (Kd.freshB (g := g) (o := .cells #[.slice Ao23 x1000_1.length co23, .int .i64 x1001_1] 119 (0, 0)) (by (with_reducible repeat (first | refine blk_drewN ?_ _ | refine blk_drew ?_ | refine blk_alloc ?_ _)); exact BK0.out) k_ hn_))⟩)); have n3_ := Aside0.mk (Kd.V_mono (ok' := fun k_ => (P0_0_ k_ ∨ w.heap.size ≤ k_) ∧ k_ ≠ g) ho1 (fun k_ hk_ => ⟨Or.elim hk_ (fun hs_ => hs_.1) (fun hn_ => (.inr (Nat.le_trans (by first | exact HK.out.1 | exact (show Kept w _ (fun k_ => k_ = g) from by repeat (first | (with_reducible first | exact HK.out | apply Kept.alloc | apply Kept.drewN | apply Kept.drew | refine Kept.setCell ?_ (.inl (show g = g from rfl)) _) | exact HK.out)).1) hn_))), Or.elim hk_ (fun hs_ => hs_.2) (fun hn_ => (Kd.freshB (g := g) (o := .cells #[.slice Ao23 x1000_1.length co23, .int .i64 x1001_1] 119 (0, 0)) (by (with_reducible repeat (first | refine blk_drewN ?_ _ | refine blk_drew ?_ | refine blk_alloc ?_ _)); exact BK0.out) k_ hn_))⟩)); have n4_ := Aside0.mk (Kept.then_ (S := (fun k_ => k_ = g)) (by repeat (first | (with_reducible first | exact HK.out | apply Kept.alloc | apply Kept.drewN | apply Kept.drew | refine Kept.setCell ?_ (.inl (show g = g from rfl)) _) | exact HK.out)) hkp (fun k_ hs_ => (fun e_ => .inl e_) hs_)); have n5_ := Aside0.mk (hb); clear HO_1000; clear BK0; clear HK; clear HB; have HO_1000 := n0_; have BK0 := n1_; have HO199 := n2_; have HO203 := n3_; have HK := n4_; have HB := n5_; clear n0_ n1_ n2_ n3_ n4_ n5_; (try clear hbx); (try clear hbn); (try clear hgn); (try clear hb); (try clear hkp); (try clear ho0); (try clear ho1)))
          go_ret
          exact ⟨(v202), by first | rfl | (simp [errW_none, errW_some, ptrW_true, ptrW_false] <;> rfl) | (simp [*, errW_none, errW_some, ptrW_true, ptrW_false] <;> rfl), by (with_reducible repeat (first | apply Kd.V_alloc | apply Kd.V_drewN | apply Kd.V_drew)); exact Kd.V_mono HO203.out (fun _ hk => hk.1), (by (with_reducible repeat (first | refine blk_drewN ?_ _ | refine blk_drew ?_ | refine blk_alloc ?_ _)); exact BK0.out), by repeat (first | (with_reducible first | exact HB.out | apply below_alloc | apply pw_below_drewN | apply below_drew1 | refine below_set ?_ GE0.out) | exact HB.out), by repeat (first | (with_reducible first | exact HK.out | apply Kept.alloc | apply Kept.drewN | apply Kept.drew | refine Kept.setCell ?_ (.inl (show g = g from rfl)) _) | exact HK.out)⟩
      · rw [if_neg c2] at H
        have c2b0 : decide (x7_1 < 8) = false := decide_eq_false c2
        clear c2
        replace H := Option.bind_eq_some_iff.mp H
        obtain ⟨⟨t193, t196⟩, A250, H⟩ := H
        replace H : (some (0, t193, t196)) = some (r1, r2, r3) := H
        have A25 := Aside0.mk A250
        clear A250
        simp only [Option.some.injEq, Prod.mk.injEq] at H
        obtain ⟨rfl, rfl, rfl⟩ := H
        obtain ⟨Ao26, co26, eo26⟩ := Kd.V_slice HO_1000.out
        subst eo26
        go_wp2_with (first | ((with_reducible refine gate_callee (f := 60) rfl ?_); refine goesL_ (some 47) rfl rfl Try.func60 (by kernel_rfl) rfl #[.pointer (some ⟨g, 0, none⟩), .int .i64 5] rfl (by (try simp only [List.map_toArray, List.map_cons, List.map_nil]); first | done | rfl | (simp only [List.length_drop, List.length_take]; rfl)) ?_; (with_reducible refine (codec_Reader_Fail.calls g (fun k_ => ((P0_0_ k_ ∨ w.heap.size ≤ k_) ∧ k_ ≠ g)) Ao26 co26 x1000_1 x1001_1 5 t193 t196 w0 _ ?side2 ?side3 ?side1 ?side4 A25.out).mono ?_); (case side1 => repeat (first | (with_reducible first | exact HB.out | apply below_alloc | apply pw_below_drewN | apply below_drew1 | refine below_set ?_ GE0.out) | exact HB.out)); (case side2 => (with_reducible repeat (first | refine blk_drewN ?_ _ | refine blk_drew ?_ | refine blk_alloc ?_ _)); exact BK0.out); (case side3 => exact GE0.out); (case side4 => exact Kd.V_mono (HO_1000.out) (fun k_ hk_ => ⟨hk_, hk_.2⟩)); rintro e w27 ⟨v194, rfl, ho0, hbx, hb, hkp⟩; refine ⟨_, rfl, ?_⟩; have n0_ := Aside0.mk (Kd.V_mono (ok' := fun k_ => (P0_0_ k_ ∨ w.heap.size ≤ k_) ∧ k_ ≠ g) (Kd.V_keptB (HO_1000.out) hkp (fun k_ hk_ hs_ => (hk_.2) hs_)) (fun k_ hk_ => ⟨hk_.1.1, hk_.1.2⟩)); have n1_ := Aside0.mk (hbx); have n2_ := Aside0.mk (Kd.V_mono (ok' := fun k_ => (P0_0_ k_ ∨ w.heap.size ≤ k_) ∧ k_ ≠ g) ho0 (fun k_ hk_ => ⟨Or.elim hk_ (fun hs_ => hs_.1) (fun hn_ => (.inr (Nat.le_trans (by first | exact HK.out.1 | exact (show Kept w _ (fun k_ => k_ = g) from by repeat (first | (with_reducible first | exact HK.out | apply Kept.alloc | apply Kept.drewN | apply Kept.drew | refine Kept.setCell ?_ (.inl (show g = g from rfl)) _) | exact HK.out)).1) hn_))), Or.elim hk_ (fun hs_ => hs_.2) (fun hn_ => (Kd.freshB (g := g) (o := .cells #[.slice Ao26 x1000_1.length co26, .int .i64 x1001_1] 119 (0, 0)) (by (with_reducible repeat (first | refine blk_drewN ?_ _ | refine blk_drew ?_ | refine blk_alloc ?_ _)); exact BK0.out) k_ hn_))⟩)); have n3_ := Aside0.mk (Kept.then_ (S := (fun k_ => k_ = g)) (by repeat (first | (with_reducible first | exact HK.out | apply Kept.alloc | apply Kept.drewN | apply Kept.drew | refine Kept.setCell ?_ (.inl (show g = g from rfl)) _) | exact HK.out)) hkp (fun k_ hs_ => (fun e_ => .inl e_) hs_)); have n4_ := Aside0.mk (hb); clear HO_1000; clear BK0; clear HK; clear HB; have HO_1000 := n0_; have BK0 := n1_; have HO195 := n2_; have HK := n3_; have HB := n4_; clear n0_ n1_ n2_ n3_ n4_; (try clear hbx); (try clear hbn); (try clear hgn); (try clear hb); (try clear hkp); (try clear ho0)))
        go_ret
        exact ⟨(v194), by first | rfl | (simp [errW_none, errW_some, ptrW_true, ptrW_false] <;> rfl) | (simp [*, errW_none, errW_some, ptrW_true, ptrW_false] <;> rfl), by (with_reducible repeat (first | apply Kd.V_alloc | apply Kd.V_drewN | apply Kd.V_drew)); exact Kd.V_mono HO195.out (fun _ hk => hk.1), (by (with_reducible repeat (first | refine blk_drewN ?_ _ | refine blk_drew ?_ | refine blk_alloc ?_ _)); exact BK0.out), by repeat (first | (with_reducible first | exact HB.out | apply below_alloc | apply pw_below_drewN | apply below_drew1 | refine below_set ?_ GE0.out) | exact HB.out), by repeat (first | (with_reducible first | exact HK.out | apply Kept.alloc | apply Kept.drewN | apply Kept.drew | refine Kept.setCell ?_ (.inl (show g = g from rfl)) _) | exact HK.out)⟩

/-! ### codec_Reader_Done: function 49 -/
def codec_Reader_Done.f (l0_0 : List Int) (a0_1 : Int) : Option (Int × List Int × Int) := if a0_1 = 0 then (if (l0_0.length : Int) > 0 then (some (5, l0_0, a0_1)) else (some (a0_1, l0_0, a0_1))) else (some (a0_1, l0_0, a0_1))
set_option maxHeartbeats 8000000 in
set_option maxRecDepth 100000 in
theorem codec_Reader_Done.calls (g : Nat) (P0_0_ : Nat → Prop) (A0_0 : Option Addr) (c0_0 : Nat) (l0_0 : List Int) (a0_1 : Int) (r1 : Int) (r2 : List Int) (r3 : Int) (w0 w : World) (hb : w.heap[g]? = some (.cells #[.slice A0_0 l0_0.length c0_0, .int .i64 a0_1] 119 (0, 0))) (hg : w0.heap.size ≤ g) (hB : Below w0.heap.size w0 w) (hs0_0 : Kd.V (Kd.int .u8) 5 w w0.heap.size (fun k_ => P0_0_ k_ ∧ k_ ≠ g) (.slice A0_0 l0_0.length c0_0) l0_0) (h : codec_Reader_Done.f l0_0 a0_1 = some (r1, r2, r3)) :
    Calls Try.prog 49 #[.pointer (some ⟨g, 0, none⟩)] w fun e w' => ∃ v1_ : Value, Aside0 (e = .returned (.int .i64 r1) ∧ Kd.V (Kd.int .u8) 5 w' w0.heap.size (fun k_ => (P0_0_ k_ ∨ w.heap.size ≤ k_)) v1_ r2 ∧ w'.heap[g]? = some (.cells #[v1_, .int .i64 r3] 119 (0, 0)) ∧ Below w0.heap.size w0 w' ∧ Kept w w' (fun k_ => k_ = g)) := by
  have HO0_0 := Aside0.mk (show Kd.V (Kd.int .u8) 5 w w0.heap.size (fun k_ => (P0_0_ k_ ∨ w.heap.size ≤ k_) ∧ k_ ≠ g) (.slice A0_0 l0_0.length c0_0) l0_0 from Kd.V_mono hs0_0 (fun k_ hk => ⟨.inl hk.1, hk.2⟩))
  have HK := Aside0.mk (Kept.refl w (fun k_ => k_ = g))
  have BK0 := Aside0.mk hb
  have GE0 := Aside0.mk hg
  clear hb hg
  have HW0 := Aside0.mk hB.size
  have HB := Aside0.mk hB
  clear hB
  have H : (if a0_1 = 0 then (if (l0_0.length : Int) > 0 then (some (5, l0_0, a0_1)) else (some (a0_1, l0_0, a0_1))) else (some (a0_1, l0_0, a0_1))) = some (r1, r2, r3) := h
  clear h
  by_cases c2 : a0_1 = 0
  · rw [if_pos c2] at H
    have c2b0 : (a0_1 == 0) = true := beq_iff_eq.mpr c2
    have c2b1 : (a0_1 != 0) = false := bne_eq_false_iff_eq.mpr c2
    clear c2
    by_cases c3 : (l0_0.length : Int) > 0
    · rw [if_pos c3] at H
      have c3b0 : decide (0 < (l0_0.length : Int)) = true := decide_eq_true c3
      have c3b1 : decide (0 < l0_0.length) = true := decide_eq_true (by omega)
      clear c3
      simp only [Option.some.injEq, Prod.mk.injEq] at H
      obtain ⟨rfl, rfl, rfl⟩ := H
      have hcz4_0 : w.cell? ⟨g, 0, none⟩ = some (.slice A0_0 l0_0.length c0_0) := (blk_cell BK0.out 0).trans rfl
      have hcz4_1 : w.cell? ⟨g, 1, none⟩ = some (.int .i64 a0_1) := (blk_cell BK0.out 1).trans rfl
      have hfz4_0 := blk_frozen BK0.out 0
      have hfz4_1 := blk_frozen BK0.out 1
      go_enter Try.func49, Try.ntmps49
      go_wp2
      go_ret
      exact ⟨(.slice A0_0 l0_0.length c0_0), by first | rfl | (simp [errW_none, errW_some, ptrW_true, ptrW_false] <;> rfl) | (simp [*, errW_none, errW_some, ptrW_true, ptrW_false] <;> rfl), by (with_reducible repeat (first | apply Kd.V_alloc | apply Kd.V_drewN | apply Kd.V_drew)); exact Kd.V_mono HO0_0.out (fun _ hk => hk.1), (by (with_reducible repeat (first | refine blk_drewN ?_ _ | refine blk_drew ?_ | refine blk_alloc ?_ _)); exact BK0.out), by repeat (first | (with_reducible first | exact HB.out | apply below_alloc | apply pw_below_drewN | apply below_drew1 | refine below_set ?_ GE0.out) | exact HB.out), by repeat (first | (with_reducible first | exact HK.out | apply Kept.alloc | apply Kept.drewN | apply Kept.drew | refine Kept.setCell ?_ (.inl (show g = g from rfl)) _) | exact HK.out)⟩
    · rw [if_neg c3] at H
      have c3b0 : decide (0 < (l0_0.length : Int)) = false := decide_eq_false c3
      have c3b1 : decide (0 < l0_0.length) = false := decide_eq_false (by omega)
      clear c3
      simp only [Option.some.injEq, Prod.mk.injEq] at H
      obtain ⟨rfl, rfl, rfl⟩ := H
      have hcz5_0 : w.cell? ⟨g, 0, none⟩ = some (.slice A0_0 l0_0.length c0_0) := (blk_cell BK0.out 0).trans rfl
      have hcz5_1 : w.cell? ⟨g, 1, none⟩ = some (.int .i64 a0_1) := (blk_cell BK0.out 1).trans rfl
      have hfz5_0 := blk_frozen BK0.out 0
      have hfz5_1 := blk_frozen BK0.out 1
      go_enter Try.func49, Try.ntmps49
      go_wp2
      go_ret
      exact ⟨(.slice A0_0 l0_0.length c0_0), by first | rfl | (simp [errW_none, errW_some, ptrW_true, ptrW_false] <;> rfl) | (simp [*, errW_none, errW_some, ptrW_true, ptrW_false] <;> rfl), by (with_reducible repeat (first | apply Kd.V_alloc | apply Kd.V_drewN | apply Kd.V_drew)); exact Kd.V_mono HO0_0.out (fun _ hk => hk.1), (by (with_reducible repeat (first | refine blk_drewN ?_ _ | refine blk_drew ?_ | refine blk_alloc ?_ _)); exact BK0.out), by repeat (first | (with_reducible first | exact HB.out | apply below_alloc | apply pw_below_drewN | apply below_drew1 | refine below_set ?_ GE0.out) | exact HB.out), by repeat (first | (with_reducible first | exact HK.out | apply Kept.alloc | apply Kept.drewN | apply Kept.drew | refine Kept.setCell ?_ (.inl (show g = g from rfl)) _) | exact HK.out)⟩
  · rw [if_neg c2] at H
    have c2b0 : (a0_1 == 0) = false := beq_eq_false_iff_ne.mpr c2
    have c2b1 : (a0_1 != 0) = true := bne_iff_ne.mpr c2
    simp only [Option.some.injEq, Prod.mk.injEq] at H
    obtain ⟨rfl, rfl, rfl⟩ := H
    have hcz6_0 : w.cell? ⟨g, 0, none⟩ = some (.slice A0_0 l0_0.length c0_0) := (blk_cell BK0.out 0).trans rfl
    have hcz6_1 : w.cell? ⟨g, 1, none⟩ = some (.int .i64 a0_1) := (blk_cell BK0.out 1).trans rfl
    have hfz6_0 := blk_frozen BK0.out 0
    have hfz6_1 := blk_frozen BK0.out 1
    go_enter Try.func49, Try.ntmps49
    go_wp2
    go_ret
    exact ⟨(.slice A0_0 l0_0.length c0_0), by first | rfl | (simp [errW_none, errW_some, ptrW_true, ptrW_false] <;> rfl) | (simp [*, errW_none, errW_some, ptrW_true, ptrW_false] <;> rfl), by (with_reducible repeat (first | apply Kd.V_alloc | apply Kd.V_drewN | apply Kd.V_drew)); exact Kd.V_mono HO0_0.out (fun _ hk => hk.1), (by (with_reducible repeat (first | refine blk_drewN ?_ _ | refine blk_drew ?_ | refine blk_alloc ?_ _)); exact BK0.out), by repeat (first | (with_reducible first | exact HB.out | apply below_alloc | apply pw_below_drewN | apply below_drew1 | refine below_set ?_ GE0.out) | exact HB.out), by repeat (first | (with_reducible first | exact HK.out | apply Kept.alloc | apply Kept.drewN | apply Kept.drew | refine Kept.setCell ?_ (.inl (show g = g from rfl)) _) | exact HK.out)⟩

/-! ### codec_Reader_Byte: function 53 -/
def codec_Reader_Byte.f (l0_0 : List Int) (a0_1 : Int) : Option (Int × List Int × Int) := (codec_Reader_take.f l0_0 a0_1 1).bind fun bt212 => (if bt212.2.1 = true then (if 0 < (bt212.1.length : Int) then (some (rd bt212.1 0, bt212.2.2.1, bt212.2.2.2)) else (none)) else (some (0, bt212.2.2.1, bt212.2.2.2)))
set_option maxHeartbeats 8000000 in
set_option maxRecDepth 100000 in
theorem codec_Reader_Byte.calls (g : Nat) (P0_0_ : Nat → Prop) (A0_0 : Option Addr) (c0_0 : Nat) (l0_0 : List Int) (a0_1 : Int) (r1 : Int) (r2 : List Int) (r3 : Int) (w0 w : World) (hb : w.heap[g]? = some (.cells #[.slice A0_0 l0_0.length c0_0, .int .i64 a0_1] 119 (0, 0))) (hg : w0.heap.size ≤ g) (hB : Below w0.heap.size w0 w) (hs0_0 : Kd.V (Kd.int .u8) 5 w w0.heap.size (fun k_ => P0_0_ k_ ∧ k_ ≠ g) (.slice A0_0 l0_0.length c0_0) l0_0) (h : codec_Reader_Byte.f l0_0 a0_1 = some (r1, r2, r3)) :
    Calls Try.prog 53 #[.pointer (some ⟨g, 0, none⟩)] w fun e w' => ∃ v1_ : Value, Aside0 (e = .returned (.int .u8 r1) ∧ Kd.V (Kd.int .u8) 5 w' w0.heap.size (fun k_ => (P0_0_ k_ ∨ w.heap.size ≤ k_)) v1_ r2 ∧ w'.heap[g]? = some (.cells #[v1_, .int .i64 r3] 119 (0, 0)) ∧ Below w0.heap.size w0 w' ∧ Kept w w' (fun k_ => k_ = g)) := by
  have HO0_0 := Aside0.mk (show Kd.V (Kd.int .u8) 5 w w0.heap.size (fun k_ => (P0_0_ k_ ∨ w.heap.size ≤ k_) ∧ k_ ≠ g) (.slice A0_0 l0_0.length c0_0) l0_0 from Kd.V_mono hs0_0 (fun k_ hk => ⟨.inl hk.1, hk.2⟩))
  have HK := Aside0.mk (Kept.refl w (fun k_ => k_ = g))
  have BK0 := Aside0.mk hb
  have GE0 := Aside0.mk hg
  clear hb hg
  have HW0 := Aside0.mk hB.size
  have HB := Aside0.mk hB
  clear hB
  have H : ((codec_Reader_take.f l0_0 a0_1 1).bind fun bt212 => (if bt212.2.1 = true then (if 0 < (bt212.1.length : Int) then (some (rd bt212.1 0, bt212.2.2.1, bt212.2.2.2)) else (none)) else (some (0, bt212.2.2.1, bt212.2.2.2)))) = some (r1, r2, r3) := h
  clear h
  replace H := Option.bind_eq_some_iff.mp H
  obtain ⟨⟨t212, t215, t216, t219⟩, A20, H⟩ := H
  replace H : (if t215 = true then (if 0 < (t212.length : Int) then (some (rd t212 0, t216, t219)) else (none)) else (some (0, t216, t219))) = some (r1, r2, r3) := H
  have A2 := Aside0.mk A20
  clear A20
  by_cases c3 : t215 = true
  · subst c3
    have H1 : (if 0 < (t212.length : Int) then (some (rd t212 0, t216, t219)) else (none)) = some (r1, r2, r3) := by rw [if_pos rfl] at H; exact H
    clear H
    have H := H1
    clear H1
    by_cases c4 : 0 < (t212.length : Int)
    · rw [if_pos c4] at H
      have c4b0 : decide (0 < (t212.length : Int)) = true := decide_eq_true c4
      have c4b1 : decide (0 < t212.length) = true := decide_eq_true (by omega)
      clear c4
      simp only [Option.some.injEq, Prod.mk.injEq] at H
      obtain ⟨rfl, rfl, rfl⟩ := H
      go_enter Try.func53, Try.ntmps53
      go_wp2_with (first | ((with_reducible refine gate_callee (f := 82) rfl ?_); refine goesL_ (some 7) rfl rfl Try.func82 (by kernel_rfl) rfl #[.pointer (some ⟨g, 0, none⟩), .int .i64 1] rfl (by (try simp only [List.map_toArray, List.map_cons, List.map_nil]); first | done | rfl | (simp only [List.length_drop, List.length_take]; rfl)) ?_; (with_reducible refine (codec_Reader_take.calls g (fun k_ => ((P0_0_ k_ ∨ w.heap.size ≤ k_) ∧ k_ ≠ g)) A0_0 c0_0 l0_0 a0_1 1 t212 true t216 t219 w0 _ ?side2 ?side3 ?side1 ?side4 A2.out).mono ?_); (case side1 => repeat (first | (with_reducible first | exact HB.out | apply below_alloc | apply pw_below_drewN | apply below_drew1 | refine below_set ?_ GE0.out) | exact HB.out)); (case side2 => (with_reducible repeat (first | refine blk_drewN ?_ _ | refine blk_drew ?_ | refine blk_alloc ?_ _)); exact BK0.out); (case side3 => exact GE0.out); (case side4 => exact Kd.V_mono (HO0_0.out) (fun k_ hk_ => ⟨hk_, hk_.2⟩)); rintro e w5 ⟨v213, v217, rfl, ho0, ho1, hbx, hb, hkp⟩; refine ⟨_, rfl, ?_⟩; have n0_ := Aside0.mk (hbx); have n1_ := Aside0.mk (Kd.V_mono (ok' := fun k_ => (P0_0_ k_ ∨ w.heap.size ≤ k_) ∧ k_ ≠ g) (Kd.V_keptB (HO0_0.out) hkp (fun k_ hk_ hs_ => (hk_.2) hs_)) (fun k_ hk_ => ⟨hk_.1.1, hk_.1.2⟩)); have n2_ := Aside0.mk (Kd.V_mono (ok' := fun k_ => (P0_0_ k_ ∨ w.heap.size ≤ k_) ∧ k_ ≠ g) ho0 (fun k_ hk_ => ⟨Or.elim hk_ (fun hs_ => hs_.1) (fun hn_ => (.inr (Nat.le_trans (by first | exact HK.out.1 | exact (show Kept w _ (fun k_ => k_ = g) from by repeat (first | (with_reducible first | exact HK.out | apply Kept.alloc | apply Kept.drewN | apply Kept.drew | refine Kept.setCell ?_ (.inl (show g = g from rfl)) _) | exact HK.out)).1) hn_))), Or.elim hk_ (fun hs_ => hs_.2) (fun hn_ => (Kd.freshB (g := g) (o := .cells #[.slice A0_0 l0_0.length c0_0, .int .i64 a0_1] 119 (0, 0)) (by (with_reducible repeat (first | refine blk_drewN ?_ _ | refine blk_drew ?_ | refine blk_alloc ?_ _)); exact BK0.out) k_ hn_))⟩)); have n3_ := Aside0.mk (Kd.V_mono (ok' := fun k_ => (P0_0_ k_ ∨ w.heap.size ≤ k_) ∧ k_ ≠ g) ho1 (fun k_ hk_ => ⟨Or.elim hk_ (fun hs_ => hs_.1) (fun hn_ => (.inr (Nat.le_trans (by first | exact HK.out.1 | exact (show Kept w _ (fun k_ => k_ = g) from by repeat (first | (with_reducible first | exact HK.out | apply Kept.alloc | apply Kept.drewN | apply Kept.drew | refine Kept.setCell ?_ (.inl (show g = g from rfl)) _) | exact HK.out)).1) hn_))), Or.elim hk_ (fun hs_ => hs_.2) (fun hn_ => (Kd.freshB (g := g) (o := .cells #[.slice A0_0 l0_0.length c0_0, .int .i64 a0_1] 119 (0, 0)) (by (with_reducible repeat (first | refine blk_drewN ?_ _ | refine blk_drew ?_ | refine blk_alloc ?_ _)); exact BK0.out) k_ hn_))⟩)); have n4_ := Aside0.mk (Kept.then_ (S := (fun k_ => k_ = g)) (by repeat (first | (with_reducible first | exact HK.out | apply Kept.alloc | apply Kept.drewN | apply Kept.drew | refine Kept.setCell ?_ (.inl (show g = g from rfl)) _) | exact HK.out)) hkp (fun k_ hs_ => (fun e_ => .inl e_) hs_)); have n5_ := Aside0.mk (hb); clear BK0; clear HO0_0; clear HK; clear HB; have BK0 := n0_; have HO0_0 := n1_; have HO214 := n2_; have HO218 := n3_; have HK := n4_; have HB := n5_; clear n0_ n1_ n2_ n3_ n4_ n5_; (try clear hbx); (try clear hbn); (try clear hgn); (try clear hb); (try clear hkp); (try clear ho0); (try clear ho1); obtain ⟨Ao6, co6, eo6⟩ := Kd.V_slice HO214.out; subst eo6; have p220 : 0 ≤ (0 : Int) := (by omega); have q220 : 0 < (t212.length : Int) := of_decide_eq_true (by first | (with_reducible assumption) | assumption); obtain ⟨ad220, e220, hx220_0⟩ := Kd.at_int (Kd.V_reads' HO214.out).2.2 0 p220 q220; cases e220; have qi220 : (0 < t212.length) = True := eq_true (by omega); (try rw [show ((0 : Int)).toNat = 0 from rfl] at hx220_0); (try rw [Addr.add_zero'] at hx220_0); replace p220 := eq_true p220; replace q220 := eq_true q220))
      go_ret
      exact ⟨(v217), by first | rfl | (simp [errW_none, errW_some, ptrW_true, ptrW_false] <;> rfl) | (simp [*, errW_none, errW_some, ptrW_true, ptrW_false] <;> rfl), by (with_reducible repeat (first | apply Kd.V_alloc | apply Kd.V_drewN | apply Kd.V_drew)); exact Kd.V_mono HO218.out (fun _ hk => hk.1), (by (with_reducible repeat (first | refine blk_drewN ?_ _ | refine blk_drew ?_ | refine blk_alloc ?_ _)); exact BK0.out), by repeat (first | (with_reducible first | exact HB.out | apply below_alloc | apply pw_below_drewN | apply below_drew1 | refine below_set ?_ GE0.out) | exact HB.out), by repeat (first | (with_reducible first | exact HK.out | apply Kept.alloc | apply Kept.drewN | apply Kept.drew | refine Kept.setCell ?_ (.inl (show g = g from rfl)) _) | exact HK.out)⟩
    · rw [if_neg c4] at H
      exact absurd H (by simp)
  · replace c3 := Bool.eq_false_iff.mpr c3
    subst c3
    have H1 : (some (0, t216, t219)) = some (r1, r2, r3) := by rw [if_neg (show ¬ (false = true) by decide)] at H; exact H
    clear H
    have H := H1
    clear H1
    simp only [Option.some.injEq, Prod.mk.injEq] at H
    obtain ⟨rfl, rfl, rfl⟩ := H
    go_enter Try.func53, Try.ntmps53
    go_wp2_with (first | ((with_reducible refine gate_callee (f := 82) rfl ?_); refine goesL_ (some 7) rfl rfl Try.func82 (by kernel_rfl) rfl #[.pointer (some ⟨g, 0, none⟩), .int .i64 1] rfl (by (try simp only [List.map_toArray, List.map_cons, List.map_nil]); first | done | rfl | (simp only [List.length_drop, List.length_take]; rfl)) ?_; (with_reducible refine (codec_Reader_take.calls g (fun k_ => ((P0_0_ k_ ∨ w.heap.size ≤ k_) ∧ k_ ≠ g)) A0_0 c0_0 l0_0 a0_1 1 t212 false t216 t219 w0 _ ?side2 ?side3 ?side1 ?side4 A2.out).mono ?_); (case side1 => repeat (first | (with_reducible first | exact HB.out | apply below_alloc | apply pw_below_drewN | apply below_drew1 | refine below_set ?_ GE0.out) | exact HB.out)); (case side2 => (with_reducible repeat (first | refine blk_drewN ?_ _ | refine blk_drew ?_ | refine blk_alloc ?_ _)); exact BK0.out); (case side3 => exact GE0.out); (case side4 => exact Kd.V_mono (HO0_0.out) (fun k_ hk_ => ⟨hk_, hk_.2⟩)); rintro e w7 ⟨v213, v217, rfl, ho0, ho1, hbx, hb, hkp⟩; refine ⟨_, rfl, ?_⟩; have n0_ := Aside0.mk (hbx); have n1_ := Aside0.mk (Kd.V_mono (ok' := fun k_ => (P0_0_ k_ ∨ w.heap.size ≤ k_) ∧ k_ ≠ g) (Kd.V_keptB (HO0_0.out) hkp (fun k_ hk_ hs_ => (hk_.2) hs_)) (fun k_ hk_ => ⟨hk_.1.1, hk_.1.2⟩)); have n2_ := Aside0.mk (Kd.V_mono (ok' := fun k_ => (P0_0_ k_ ∨ w.heap.size ≤ k_) ∧ k_ ≠ g) ho0 (fun k_ hk_ => ⟨Or.elim hk_ (fun hs_ => hs_.1) (fun hn_ => (.inr (Nat.le_trans (by first | exact HK.out.1 | exact (show Kept w _ (fun k_ => k_ = g) from by repeat (first | (with_reducible first | exact HK.out | apply Kept.alloc | apply Kept.drewN | apply Kept.drew | refine Kept.setCell ?_ (.inl (show g = g from rfl)) _) | exact HK.out)).1) hn_))), Or.elim hk_ (fun hs_ => hs_.2) (fun hn_ => (Kd.freshB (g := g) (o := .cells #[.slice A0_0 l0_0.length c0_0, .int .i64 a0_1] 119 (0, 0)) (by (with_reducible repeat (first | refine blk_drewN ?_ _ | refine blk_drew ?_ | refine blk_alloc ?_ _)); exact BK0.out) k_ hn_))⟩)); have n3_ := Aside0.mk (Kd.V_mono (ok' := fun k_ => (P0_0_ k_ ∨ w.heap.size ≤ k_) ∧ k_ ≠ g) ho1 (fun k_ hk_ => ⟨Or.elim hk_ (fun hs_ => hs_.1) (fun hn_ => (.inr (Nat.le_trans (by first | exact HK.out.1 | exact (show Kept w _ (fun k_ => k_ = g) from by repeat (first | (with_reducible first | exact HK.out | apply Kept.alloc | apply Kept.drewN | apply Kept.drew | refine Kept.setCell ?_ (.inl (show g = g from rfl)) _) | exact HK.out)).1) hn_))), Or.elim hk_ (fun hs_ => hs_.2) (fun hn_ => (Kd.freshB (g := g) (o := .cells #[.slice A0_0 l0_0.length c0_0, .int .i64 a0_1] 119 (0, 0)) (by (with_reducible repeat (first | refine blk_drewN ?_ _ | refine blk_drew ?_ | refine blk_alloc ?_ _)); exact BK0.out) k_ hn_))⟩)); have n4_ := Aside0.mk (Kept.then_ (S := (fun k_ => k_ = g)) (by repeat (first | (with_reducible first | exact HK.out | apply Kept.alloc | apply Kept.drewN | apply Kept.drew | refine Kept.setCell ?_ (.inl (show g = g from rfl)) _) | exact HK.out)) hkp (fun k_ hs_ => (fun e_ => .inl e_) hs_)); have n5_ := Aside0.mk (hb); clear BK0; clear HO0_0; clear HK; clear HB; have BK0 := n0_; have HO0_0 := n1_; have HO214 := n2_; have HO218 := n3_; have HK := n4_; have HB := n5_; clear n0_ n1_ n2_ n3_ n4_ n5_; (try clear hbx); (try clear hbn); (try clear hgn); (try clear hb); (try clear hkp); (try clear ho0); (try clear ho1)))
    go_ret
    exact ⟨(v217), by first | rfl | (simp [errW_none, errW_some, ptrW_true, ptrW_false] <;> rfl) | (simp [*, errW_none, errW_some, ptrW_true, ptrW_false] <;> rfl), by (with_reducible repeat (first | apply Kd.V_alloc | apply Kd.V_drewN | apply Kd.V_drew)); exact Kd.V_mono HO218.out (fun _ hk => hk.1), (by (with_reducible repeat (first | refine blk_drewN ?_ _ | refine blk_drew ?_ | refine blk_alloc ?_ _)); exact BK0.out), by repeat (first | (with_reducible first | exact HB.out | apply below_alloc | apply pw_below_drewN | apply below_drew1 | refine below_set ?_ GE0.out) | exact HB.out), by repeat (first | (with_reducible first | exact HK.out | apply Kept.alloc | apply Kept.drewN | apply Kept.drew | refine Kept.setCell ?_ (.inl (show g = g from rfl)) _) | exact HK.out)⟩

/-! ### codec_Reader_Signed: function 54 -/
def codec_Reader_Signed.f (k : Nat) (l0_0 : List Int) (a0_1 : Int) : Option (Int × List Int × Int) := (codec_Reader_Number.f k l0_0 a0_1).bind fun bt221 => (if (Int.tmod bt221.1 2) = 1 then (some (wrap64 ((wrap64 (-(wrap64 (Int.tdiv bt221.1 2)))) - 1), bt221.2.1, bt221.2.2)) else (some (wrap64 (Int.tdiv bt221.1 2), bt221.2.1, bt221.2.2)))
theorem codec_Reader_Signed.mono : ∀ a0 a1 k, LeO (codec_Reader_Signed.f k a0 a1) (codec_Reader_Signed.f (k + 1) a0 a1) := by
  intro a0 a1 k
  unfold codec_Reader_Signed.f
  repeat' first
      | (with_reducible exact codec_Reader_Number.mono _ _ _)
      | (with_reducible exact LeO.refl _)
      | (with_reducible exact LeO.none _)
      | (with_reducible refine LeO.ite ?_ ?_)
      | (with_reducible refine LeO.bind ?_ (fun _ => ?_))
      | exact codec_Reader_Number.mono _ _ _
      | exact LeO.none _
      | refine LeO.ite ?_ ?_
      | refine LeO.bind ?_ (fun _ => ?_)
set_option maxHeartbeats 8000000 in
set_option maxRecDepth 100000 in
theorem codec_Reader_Signed.calls (k : Nat) (g : Nat) (P0_0_ : Nat → Prop) (A0_0 : Option Addr) (c0_0 : Nat) (l0_0 : List Int) (a0_1 : Int) (r1 : Int) (r2 : List Int) (r3 : Int) (w0 w : World) (hb : w.heap[g]? = some (.cells #[.slice A0_0 l0_0.length c0_0, .int .i64 a0_1] 119 (0, 0))) (hg : w0.heap.size ≤ g) (hB : Below w0.heap.size w0 w) (hs0_0 : Kd.V (Kd.int .u8) 5 w w0.heap.size (fun k_ => P0_0_ k_ ∧ k_ ≠ g) (.slice A0_0 l0_0.length c0_0) l0_0) (h : codec_Reader_Signed.f k l0_0 a0_1 = some (r1, r2, r3)) :
    Calls Try.prog 54 #[.pointer (some ⟨g, 0, none⟩)] w fun e w' => ∃ v1_ : Value, Aside0 (e = .returned (.int .i64 r1) ∧ Kd.V (Kd.int .u8) 5 w' w0.heap.size (fun k_ => (P0_0_ k_ ∨ w.heap.size ≤ k_)) v1_ r2 ∧ w'.heap[g]? = some (.cells #[v1_, .int .i64 r3] 119 (0, 0)) ∧ Below w0.heap.size w0 w' ∧ Kept w w' (fun k_ => k_ = g)) := by
  have HO0_0 := Aside0.mk (show Kd.V (Kd.int .u8) 5 w w0.heap.size (fun k_ => (P0_0_ k_ ∨ w.heap.size ≤ k_) ∧ k_ ≠ g) (.slice A0_0 l0_0.length c0_0) l0_0 from Kd.V_mono hs0_0 (fun k_ hk => ⟨.inl hk.1, hk.2⟩))
  have HK := Aside0.mk (Kept.refl w (fun k_ => k_ = g))
  have BK0 := Aside0.mk hb
  have GE0 := Aside0.mk hg
  clear hb hg
  have HW0 := Aside0.mk hB.size
  have HB := Aside0.mk hB
  clear hB
  have H : ((codec_Reader_Number.f k l0_0 a0_1).bind fun bt221 => (if (Int.tmod bt221.1 2) = 1 then (some (wrap64 ((wrap64 (-(wrap64 (Int.tdiv bt221.1 2)))) - 1), bt221.2.1, bt221.2.2)) else (some (wrap64 (Int.tdiv bt221.1 2), bt221.2.1, bt221.2.2)))) = some (r1, r2, r3) := h
  clear h
  replace H := Option.bind_eq_some_iff.mp H
  obtain ⟨⟨t221, t222, t225⟩, A20, H⟩ := H
  replace H : (if (Int.tmod t221 2) = 1 then (some (wrap64 ((wrap64 (-(wrap64 (Int.tdiv t221 2)))) - 1), t222, t225)) else (some (wrap64 (Int.tdiv t221 2), t222, t225))) = some (r1, r2, r3) := H
  have A2 := Aside0.mk A20
  clear A20
  by_cases c3 : (Int.tmod t221 2) = 1
  · rw [if_pos c3] at H
    have c3b0 : ((Int.tmod t221 2) == 1) = true := beq_iff_eq.mpr c3
    have c3b1 : ((Int.tmod t221 2) != 1) = false := bne_eq_false_iff_eq.mpr c3
    clear c3
    simp only [Option.some.injEq, Prod.mk.injEq] at H
    obtain ⟨rfl, rfl, rfl⟩ := H
    go_enter Try.func54, Try.ntmps54
    go_wp2_with (first | ((with_reducible refine gate_callee (f := 48) rfl ?_); refine goesL_ (some 5) rfl rfl Try.func48 (by kernel_rfl) rfl #[.pointer (some ⟨g, 0, none⟩)] rfl (by (try simp only [List.map_toArray, List.map_cons, List.map_nil]); first | done | rfl | (simp only [List.length_drop, List.length_take]; rfl)) ?_; (with_reducible refine (codec_Reader_Number.calls k g (fun k_ => ((P0_0_ k_ ∨ w.heap.size ≤ k_) ∧ k_ ≠ g)) A0_0 c0_0 l0_0 a0_1 t221 t222 t225 w0 _ ?side2 ?side3 ?side1 ?side4 A2.out).mono ?_); (case side1 => repeat (first | (with_reducible first | exact HB.out | apply below_alloc | apply pw_below_drewN | apply below_drew1 | refine below_set ?_ GE0.out) | exact HB.out)); (case side2 => (with_reducible repeat (first | refine blk_drewN ?_ _ | refine blk_drew ?_ | refine blk_alloc ?_ _)); exact BK0.out); (case side3 => exact GE0.out); (case side4 => exact Kd.V_mono (HO0_0.out) (fun k_ hk_ => ⟨hk_, hk_.2⟩)); rintro e w4 ⟨v223, rfl, ho0, hbx, hb, hkp⟩; refine ⟨_, rfl, ?_⟩; have n0_ := Aside0.mk (hbx); have n1_ := Aside0.mk (Kd.V_mono (ok' := fun k_ => (P0_0_ k_ ∨ w.heap.size ≤ k_) ∧ k_ ≠ g) (Kd.V_keptB (HO0_0.out) hkp (fun k_ hk_ hs_ => (hk_.2) hs_)) (fun k_ hk_ => ⟨hk_.1.1, hk_.1.2⟩)); have n2_ := Aside0.mk (Kd.V_mono (ok' := fun k_ => (P0_0_ k_ ∨ w.heap.size ≤ k_) ∧ k_ ≠ g) ho0 (fun k_ hk_ => ⟨Or.elim hk_ (fun hs_ => hs_.1) (fun hn_ => (.inr (Nat.le_trans (by first | exact HK.out.1 | exact (show Kept w _ (fun k_ => k_ = g) from by repeat (first | (with_reducible first | exact HK.out | apply Kept.alloc | apply Kept.drewN | apply Kept.drew | refine Kept.setCell ?_ (.inl (show g = g from rfl)) _) | exact HK.out)).1) hn_))), Or.elim hk_ (fun hs_ => hs_.2) (fun hn_ => (Kd.freshB (g := g) (o := .cells #[.slice A0_0 l0_0.length c0_0, .int .i64 a0_1] 119 (0, 0)) (by (with_reducible repeat (first | refine blk_drewN ?_ _ | refine blk_drew ?_ | refine blk_alloc ?_ _)); exact BK0.out) k_ hn_))⟩)); have n3_ := Aside0.mk (Kept.then_ (S := (fun k_ => k_ = g)) (by repeat (first | (with_reducible first | exact HK.out | apply Kept.alloc | apply Kept.drewN | apply Kept.drew | refine Kept.setCell ?_ (.inl (show g = g from rfl)) _) | exact HK.out)) hkp (fun k_ hs_ => (fun e_ => .inl e_) hs_)); have n4_ := Aside0.mk (hb); clear BK0; clear HO0_0; clear HK; clear HB; have BK0 := n0_; have HO0_0 := n1_; have HO224 := n2_; have HK := n3_; have HB := n4_; clear n0_ n1_ n2_ n3_ n4_; (try clear hbx); (try clear hbn); (try clear hgn); (try clear hb); (try clear hkp); (try clear ho0)))
    go_ret
    exact ⟨(v223), by first | rfl | (simp [errW_none, errW_some, ptrW_true, ptrW_false] <;> rfl) | (simp [*, errW_none, errW_some, ptrW_true, ptrW_false] <;> rfl), by (with_reducible repeat (first | apply Kd.V_alloc | apply Kd.V_drewN | apply Kd.V_drew)); exact Kd.V_mono HO224.out (fun _ hk => hk.1), (by (with_reducible repeat (first | refine blk_drewN ?_ _ | refine blk_drew ?_ | refine blk_alloc ?_ _)); exact BK0.out), by repeat (first | (with_reducible first | exact HB.out | apply below_alloc | apply pw_below_drewN | apply below_drew1 | refine below_set ?_ GE0.out) | exact HB.out), by repeat (first | (with_reducible first | exact HK.out | apply Kept.alloc | apply Kept.drewN | apply Kept.drew | refine Kept.setCell ?_ (.inl (show g = g from rfl)) _) | exact HK.out)⟩
  · rw [if_neg c3] at H
    have c3b0 : ((Int.tmod t221 2) == 1) = false := beq_eq_false_iff_ne.mpr c3
    have c3b1 : ((Int.tmod t221 2) != 1) = true := bne_iff_ne.mpr c3
    simp only [Option.some.injEq, Prod.mk.injEq] at H
    obtain ⟨rfl, rfl, rfl⟩ := H
    go_enter Try.func54, Try.ntmps54
    go_wp2_with (first | ((with_reducible refine gate_callee (f := 48) rfl ?_); refine goesL_ (some 5) rfl rfl Try.func48 (by kernel_rfl) rfl #[.pointer (some ⟨g, 0, none⟩)] rfl (by (try simp only [List.map_toArray, List.map_cons, List.map_nil]); first | done | rfl | (simp only [List.length_drop, List.length_take]; rfl)) ?_; (with_reducible refine (codec_Reader_Number.calls k g (fun k_ => ((P0_0_ k_ ∨ w.heap.size ≤ k_) ∧ k_ ≠ g)) A0_0 c0_0 l0_0 a0_1 t221 t222 t225 w0 _ ?side2 ?side3 ?side1 ?side4 A2.out).mono ?_); (case side1 => repeat (first | (with_reducible first | exact HB.out | apply below_alloc | apply pw_below_drewN | apply below_drew1 | refine below_set ?_ GE0.out) | exact HB.out)); (case side2 => (with_reducible repeat (first | refine blk_drewN ?_ _ | refine blk_drew ?_ | refine blk_alloc ?_ _)); exact BK0.out); (case side3 => exact GE0.out); (case side4 => exact Kd.V_mono (HO0_0.out) (fun k_ hk_ => ⟨hk_, hk_.2⟩)); rintro e w5 ⟨v223, rfl, ho0, hbx, hb, hkp⟩; refine ⟨_, rfl, ?_⟩; have n0_ := Aside0.mk (hbx); have n1_ := Aside0.mk (Kd.V_mono (ok' := fun k_ => (P0_0_ k_ ∨ w.heap.size ≤ k_) ∧ k_ ≠ g) (Kd.V_keptB (HO0_0.out) hkp (fun k_ hk_ hs_ => (hk_.2) hs_)) (fun k_ hk_ => ⟨hk_.1.1, hk_.1.2⟩)); have n2_ := Aside0.mk (Kd.V_mono (ok' := fun k_ => (P0_0_ k_ ∨ w.heap.size ≤ k_) ∧ k_ ≠ g) ho0 (fun k_ hk_ => ⟨Or.elim hk_ (fun hs_ => hs_.1) (fun hn_ => (.inr (Nat.le_trans (by first | exact HK.out.1 | exact (show Kept w _ (fun k_ => k_ = g) from by repeat (first | (with_reducible first | exact HK.out | apply Kept.alloc | apply Kept.drewN | apply Kept.drew | refine Kept.setCell ?_ (.inl (show g = g from rfl)) _) | exact HK.out)).1) hn_))), Or.elim hk_ (fun hs_ => hs_.2) (fun hn_ => (Kd.freshB (g := g) (o := .cells #[.slice A0_0 l0_0.length c0_0, .int .i64 a0_1] 119 (0, 0)) (by (with_reducible repeat (first | refine blk_drewN ?_ _ | refine blk_drew ?_ | refine blk_alloc ?_ _)); exact BK0.out) k_ hn_))⟩)); have n3_ := Aside0.mk (Kept.then_ (S := (fun k_ => k_ = g)) (by repeat (first | (with_reducible first | exact HK.out | apply Kept.alloc | apply Kept.drewN | apply Kept.drew | refine Kept.setCell ?_ (.inl (show g = g from rfl)) _) | exact HK.out)) hkp (fun k_ hs_ => (fun e_ => .inl e_) hs_)); have n4_ := Aside0.mk (hb); clear BK0; clear HO0_0; clear HK; clear HB; have BK0 := n0_; have HO0_0 := n1_; have HO224 := n2_; have HK := n3_; have HB := n4_; clear n0_ n1_ n2_ n3_ n4_; (try clear hbx); (try clear hbn); (try clear hgn); (try clear hb); (try clear hkp); (try clear ho0)))
    go_ret
    exact ⟨(v223), by first | rfl | (simp [errW_none, errW_some, ptrW_true, ptrW_false] <;> rfl) | (simp [*, errW_none, errW_some, ptrW_true, ptrW_false] <;> rfl), by (with_reducible repeat (first | apply Kd.V_alloc | apply Kd.V_drewN | apply Kd.V_drew)); exact Kd.V_mono HO224.out (fun _ hk => hk.1), (by (with_reducible repeat (first | refine blk_drewN ?_ _ | refine blk_drew ?_ | refine blk_alloc ?_ _)); exact BK0.out), by repeat (first | (with_reducible first | exact HB.out | apply below_alloc | apply pw_below_drewN | apply below_drew1 | refine below_set ?_ GE0.out) | exact HB.out), by repeat (first | (with_reducible first | exact HK.out | apply Kept.alloc | apply Kept.drewN | apply Kept.drew | refine Kept.setCell ?_ (.inl (show g = g from rfl)) _) | exact HK.out)⟩

/-! ### codec_Reader_Text: function 55 -/
def codec_Reader_Text.j0 : Nat → Int → Bool → List Int → Int → Option (List Int × List Int × Int)
  | 0, _, _, _, _ => none
  | k + 1, x5, x19, x1000, x1001 => if x19 = true then ((codec_Reader_Fail.f x1000 x1001 22).bind fun bt231 => ((codec_Reader_take.f bt231.1 bt231.2 x5).bind fun bt235 => (if bt235.2.1 = true then ((some (([] : List Int) : List Int)).bind fun y243 => (if y243.length + bt235.1.length < 140737488355328 then (some ((y243 ++ bt235.1), bt235.2.2.1, bt235.2.2.2)) else (none))) else (some (([] : List Int), bt235.2.2.1, bt235.2.2.2))))) else ((codec_Reader_take.f x1000 x1001 x5).bind fun bt249 => (if bt249.2.1 = true then ((some (([] : List Int) : List Int)).bind fun y257 => (if y257.length + bt249.1.length < 140737488355328 then (some ((y257 ++ bt249.1), bt249.2.2.1, bt249.2.2.2)) else (none))) else (some (([] : List Int), bt249.2.2.1, bt249.2.2.2))))
def codec_Reader_Text.f (k : Nat) (l0_0 : List Int) (a0_1 : Int) (a1 : Int) : Option (List Int × List Int × Int) := (codec_Reader_Number.f k l0_0 a0_1).bind fun bt226 => (if bt226.2.2 = 0 then (codec_Reader_Text.j0 k bt226.1 (decide (bt226.1 > a1)) bt226.2.1 bt226.2.2) else (codec_Reader_Text.j0 k bt226.1 false bt226.2.1 bt226.2.2))
theorem codec_Reader_Text.mono_l : ∀ k, (∀ y0 y1 y2 y3, LeO (codec_Reader_Text.j0 k y0 y1 y2 y3) (codec_Reader_Text.j0 (k + 1) y0 y1 y2 y3))
  | 0 => fun _ _ _ _ r h => by simp [codec_Reader_Text.j0] at h
  | k + 1 => by
    have ih0 := codec_Reader_Text.mono_l k
    · intro y0 y1 y2 y3
      unfold codec_Reader_Text.j0
      repeat' first
      | (with_reducible exact ih0 _ _ _ _)
      | (with_reducible exact codec_Reader_Number.mono _ _ _)
      | (with_reducible exact LeO.refl _)
      | (with_reducible exact LeO.none _)
      | (with_reducible refine LeO.ite ?_ ?_)
      | (with_reducible refine LeO.bind ?_ (fun _ => ?_))
      | exact ih0 _ _ _ _
      | exact codec_Reader_Number.mono _ _ _
      | exact LeO.none _
      | refine LeO.ite ?_ ?_
      | refine LeO.bind ?_ (fun _ => ?_)
theorem codec_Reader_Text.mono : ∀ a0 a1 a2 k, LeO (codec_Reader_Text.f k a0 a1 a2) (codec_Reader_Text.f (k + 1) a0 a1 a2) := by
  intro a0 a1 a2 k
  have ih0 := codec_Reader_Text.mono_l k
  unfold codec_Reader_Text.f
  repeat' first
      | (with_reducible exact ih0 _ _ _ _)
      | (with_reducible exact codec_Reader_Number.mono _ _ _)
      | (with_reducible exact LeO.refl _)
      | (with_reducible exact LeO.none _)
      | (with_reducible refine LeO.ite ?_ ?_)
      | (with_reducible refine LeO.bind ?_ (fun _ => ?_))
      | exact ih0 _ _ _ _
      | exact codec_Reader_Number.mono _ _ _
      | exact LeO.none _
      | refine LeO.ite ?_ ?_
      | refine LeO.bind ?_ (fun _ => ?_)
set_option maxHeartbeats 8000000 in
set_option maxRecDepth 100000 in
theorem codec_Reader_Text.calls (k : Nat) (g : Nat) (P0_0_ : Nat → Prop) (A0_0 : Option Addr) (c0_0 : Nat) (l0_0 : List Int) (a0_1 : Int) (a1 : Int) (r1 : List Int) (r2 : List Int) (r3 : Int) (w0 w : World) (hb : w.heap[g]? = some (.cells #[.slice A0_0 l0_0.length c0_0, .int .i64 a0_1] 119 (0, 0))) (hg : w0.heap.size ≤ g) (hB : Below w0.heap.size w0 w) (hs0_0 : Kd.V (Kd.int .u8) 5 w w0.heap.size (fun k_ => P0_0_ k_ ∧ k_ ≠ g) (.slice A0_0 l0_0.length c0_0) l0_0) (h : codec_Reader_Text.f k l0_0 a0_1 a1 = some (r1, r2, r3)) :
    Calls Try.prog 55 #[.pointer (some ⟨g, 0, none⟩), .int .i64 a1] w fun e w' => ∃ v0_ v1_ : Value, Aside0 (e = .returned (v0_) ∧ Kd.R (Kd.int .u8) 5 w' w0.heap.size (fun k_ => (w.heap.size ≤ k_)) v0_ r1 ∧ Kd.V (Kd.int .u8) 5 w' w0.heap.size (fun k_ => (P0_0_ k_ ∨ w.heap.size ≤ k_) ∧ some k_ ≠ (v0_ : Value).ownBlock) v1_ r2 ∧ w'.heap[g]? = some (.cells #[v1_, .int .i64 r3] 119 (0, 0)) ∧ Below w0.heap.size w0 w' ∧ Kept w w' (fun k_ => k_ = g)) := by
  have HO0_0 := Aside0.mk (show Kd.V (Kd.int .u8) 5 w w0.heap.size (fun k_ => (P0_0_ k_ ∨ w.heap.size ≤ k_) ∧ k_ ≠ g) (.slice A0_0 l0_0.length c0_0) l0_0 from Kd.V_mono hs0_0 (fun k_ hk => ⟨.inl hk.1, hk.2⟩))
  have HK := Aside0.mk (Kept.refl w (fun k_ => k_ = g))
  have BK0 := Aside0.mk hb
  have GE0 := Aside0.mk hg
  clear hb hg
  have HW0 := Aside0.mk hB.size
  have HB := Aside0.mk hB
  clear hB
  have H : ((codec_Reader_Number.f k l0_0 a0_1).bind fun bt226 => (if bt226.2.2 = 0 then (codec_Reader_Text.j0 k bt226.1 (decide (bt226.1 > a1)) bt226.2.1 bt226.2.2) else (codec_Reader_Text.j0 k bt226.1 false bt226.2.1 bt226.2.2))) = some (r1, r2, r3) := h
  clear h
  replace H := Option.bind_eq_some_iff.mp H
  obtain ⟨⟨t226, t227, t230⟩, A30, H⟩ := H
  replace H : (if t230 = 0 then (codec_Reader_Text.j0 k t226 (decide (t226 > a1)) t227 t230) else (codec_Reader_Text.j0 k t226 false t227 t230)) = some (r1, r2, r3) := H
  have A3 := Aside0.mk A30
  clear A30
  have HC4 := Aside0.mk H
  clear H
  go_enter Try.func55, Try.ntmps55
  go_upto_region 2 with (first | ((with_reducible refine gate_callee (f := 48) rfl ?_); refine goesL_ (some 9) rfl rfl Try.func48 (by kernel_rfl) rfl #[.pointer (some ⟨g, 0, none⟩)] rfl (by (try simp only [List.map_toArray, List.map_cons, List.map_nil]); first | done | rfl | (simp only [List.length_drop, List.length_take]; rfl)) ?_; (with_reducible refine (codec_Reader_Number.calls k g (fun k_ => ((P0_0_ k_ ∨ w.heap.size ≤ k_) ∧ k_ ≠ g)) A0_0 c0_0 l0_0 a0_1 t226 t227 t230 w0 _ ?side2 ?side3 ?side1 ?side4 A3.out).mono ?_); (case side1 => repeat (first | (with_reducible first | exact HB.out | apply below_alloc | apply pw_below_drewN | apply below_drew1 | refine below_set ?_ GE0.out) | exact HB.out)); (case side2 => (with_reducible repeat (first | refine blk_drewN ?_ _ | refine blk_drew ?_ | refine blk_alloc ?_ _)); exact BK0.out); (case side3 => exact GE0.out); (case side4 => exact Kd.V_mono (HO0_0.out) (fun k_ hk_ => ⟨hk_, hk_.2⟩)); rintro e w5 ⟨v228, rfl, ho0, hbx, hb, hkp⟩; refine ⟨_, rfl, ?_⟩; have n0_ := Aside0.mk (hbx); have n1_ := Aside0.mk (Kd.V_mono (ok' := fun k_ => (P0_0_ k_ ∨ w.heap.size ≤ k_) ∧ k_ ≠ g) (Kd.V_keptB (HO0_0.out) hkp (fun k_ hk_ hs_ => (hk_.2) hs_)) (fun k_ hk_ => ⟨hk_.1.1, hk_.1.2⟩)); have n2_ := Aside0.mk (Kd.V_mono (ok' := fun k_ => (P0_0_ k_ ∨ w.heap.size ≤ k_) ∧ k_ ≠ g) ho0 (fun k_ hk_ => ⟨Or.elim hk_ (fun hs_ => hs_.1) (fun hn_ => (.inr (Nat.le_trans (by first | exact HK.out.1 | exact (show Kept w _ (fun k_ => k_ = g) from by repeat (first | (with_reducible first | exact HK.out | apply Kept.alloc | apply Kept.drewN | apply Kept.drew | refine Kept.setCell ?_ (.inl (show g = g from rfl)) _) | exact HK.out)).1) hn_))), Or.elim hk_ (fun hs_ => hs_.2) (fun hn_ => (Kd.freshB (g := g) (o := .cells #[.slice A0_0 l0_0.length c0_0, .int .i64 a0_1] 119 (0, 0)) (by (with_reducible repeat (first | refine blk_drewN ?_ _ | refine blk_drew ?_ | refine blk_alloc ?_ _)); exact BK0.out) k_ hn_))⟩)); have n3_ := Aside0.mk (Kept.then_ (S := (fun k_ => k_ = g)) (by repeat (first | (with_reducible first | exact HK.out | apply Kept.alloc | apply Kept.drewN | apply Kept.drew | refine Kept.setCell ?_ (.inl (show g = g from rfl)) _) | exact HK.out)) hkp (fun k_ hs_ => (fun e_ => .inl e_) hs_)); have n4_ := Aside0.mk (hb); clear BK0; clear HO0_0; clear HK; clear HB; have BK0 := n0_; have HO0_0 := n1_; have HO229 := n2_; have HK := n3_; have HB := n4_; clear n0_ n1_ n2_ n3_ n4_; (try clear hbx); (try clear hbn); (try clear hgn); (try clear hb); (try clear hkp); (try clear ho0)))
  (try simp only [Act.put, List.setIfInBounds_toArray, List.set_cons_zero, List.set_cons_succ])
  go_cut [19] (fun v19 wc => ∃ (kq : Nat) (x19_3 : Bool), v19 = .bool x19_3 ∧ Aside0 (codec_Reader_Text.j0 kq t226 x19_3 t227 t230 = some (r1, r2, r3)) ∧ Aside0 (kq ≤ k) ∧ Aside0 (Kd.V (Kd.int .u8) 5 wc w0.heap.size (fun k_ => (P0_0_ k_ ∨ w.heap.size ≤ k_) ∧ k_ ≠ g) v228 t227) ∧ Aside0 (wc.heap[g]? = some (.cells #[v228, .int .i64 t230] 119 (0, 0))) ∧ Aside0 (Kept w wc (fun k_ => k_ = g)) ∧ Aside0 (Below w0.heap.size w0 wc))
  case first =>
    have H := HC4.out
    clear HC4
    by_cases c6 : t230 = 0
    · rw [if_pos c6] at H
      have c6b0 : (t230 == 0) = true := beq_iff_eq.mpr c6
      have c6b1 : (t230 != 0) = false := bne_eq_false_iff_eq.mpr c6
      clear c6
      (first | rw [c6b0] | (simp only [i64_w, i32_w]; rw [c6b0]) | rw [c6b1] | rw [c6b2] | skip)
      have H' := Aside0.mk H
      clear H
      have hcz7_0 : w5.cell? ⟨g, 0, none⟩ = some (v228) := (blk_cell BK0.out 0).trans rfl
      have hcz7_1 : w5.cell? ⟨g, 1, none⟩ = some (.int .i64 t230) := (blk_cell BK0.out 1).trans rfl
      have hfz7_0 := blk_frozen BK0.out 0
      have hfz7_1 := blk_frozen BK0.out 1
      go_wp2
      go_meet
      case rel => exact ⟨_, (decide (t226 > a1)), (by first | rfl | (simp; done) | (simp [*]; done)), H', ⟨by first | omega | exact Nat.le_refl _⟩, ⟨by (with_reducible repeat (first | apply Kd.V_alloc | apply Kd.V_drewN | apply Kd.V_drew)); exact HO229.out⟩, ⟨by (with_reducible repeat (first | refine blk_drewN ?_ _ | refine blk_drew ?_ | refine blk_alloc ?_ _)); exact BK0.out⟩, ⟨by repeat (first | (with_reducible first | exact HK.out | apply Kept.alloc | apply Kept.drewN | apply Kept.drew | refine Kept.setCell ?_ (.inl (show g = g from rfl)) _) | exact HK.out)⟩, ⟨by repeat (first | (with_reducible first | exact HB.out | apply below_alloc | apply pw_below_drewN | apply below_drew1 | refine below_set ?_ GE0.out) | exact HB.out)⟩⟩
    · rw [if_neg c6] at H
      have c6b0 : (t230 == 0) = false := beq_eq_false_iff_ne.mpr c6
      have c6b1 : (t230 != 0) = true := bne_iff_ne.mpr c6
      (first | rw [c6b0] | (simp only [i64_w, i32_w]; rw [c6b0]) | rw [c6b1] | rw [c6b2] | skip)
      have H' := Aside0.mk H
      clear H
      have hcz8_0 : w5.cell? ⟨g, 0, none⟩ = some (v228) := (blk_cell BK0.out 0).trans rfl
      have hcz8_1 : w5.cell? ⟨g, 1, none⟩ = some (.int .i64 t230) := (blk_cell BK0.out 1).trans rfl
      have hfz8_0 := blk_frozen BK0.out 0
      have hfz8_1 := blk_frozen BK0.out 1
      go_wp2
      go_meet
      case rel => exact ⟨_, (false), (by first | rfl | (simp; done) | (simp [*]; done)), H', ⟨by first | omega | exact Nat.le_refl _⟩, ⟨by (with_reducible repeat (first | apply Kd.V_alloc | apply Kd.V_drewN | apply Kd.V_drew)); exact HO229.out⟩, ⟨by (with_reducible repeat (first | refine blk_drewN ?_ _ | refine blk_drew ?_ | refine blk_alloc ?_ _)); exact BK0.out⟩, ⟨by repeat (first | (with_reducible first | exact HK.out | apply Kept.alloc | apply Kept.drewN | apply Kept.drew | refine Kept.setCell ?_ (.inl (show g = g from rfl)) _) | exact HK.out)⟩, ⟨by repeat (first | (with_reducible first | exact HB.out | apply below_alloc | apply pw_below_drewN | apply below_drew1 | refine below_set ?_ GE0.out) | exact HB.out)⟩⟩
  case rest =>
    clear HC4
    try clear p2
    try clear c4
    try clear c5
    try clear c6
    try clear c6b0
    try clear c6b1
    try clear c6b2
    try clear hcz7_0
    try clear hcz7_1
    try clear hcz8_0
    try clear hcz8_1
    try clear hfz7_0
    try clear hfz7_1
    try clear hfz8_0
    try clear hfz8_1
    obtain ⟨kq, x19_3, rfl, HA, HJ3, HO_1000, BK0, HK, HB⟩ := hcut
    cases kq with
    | zero => exact absurd HA.out (by simp [codec_Reader_Text.j0])
    | succ kj3 =>
      have H := HA.out
      clear HA
      simp only [codec_Reader_Text.j0] at H
      by_cases c9 : x19_3 = true
      · subst c9
        have H1 : ((codec_Reader_Fail.f t227 t230 22).bind fun bt231 => ((codec_Reader_take.f bt231.1 bt231.2 t226).bind fun bt235 => (if bt235.2.1 = true then ((some (([] : List Int) : List Int)).bind fun y243 => (if y243.length + bt235.1.length < 140737488355328 then (some ((y243 ++ bt235.1), bt235.2.2.1, bt235.2.2.2)) else (none))) else (some (([] : List Int), bt235.2.2.1, bt235.2.2.2))))) = some (r1, r2, r3) := by rw [if_pos rfl] at H; exact H
        clear H
        have H := H1
        clear H1
        replace H := Option.bind_eq_some_iff.mp H
        obtain ⟨⟨t231, t234⟩, A100, H⟩ := H
        replace H : ((codec_Reader_take.f t231 t234 t226).bind fun bt235 => (if bt235.2.1 = true then ((some (([] : List Int) : List Int)).bind fun y243 => (if y243.length + bt235.1.length < 140737488355328 then (some ((y243 ++ bt235.1), bt235.2.2.1, bt235.2.2.2)) else (none))) else (some (([] : List Int), bt235.2.2.1, bt235.2.2.2)))) = some (r1, r2, r3) := H
        have A10 := Aside0.mk A100
        clear A100
        replace H := Option.bind_eq_some_iff.mp H
        obtain ⟨⟨t235, t238, t239, t242⟩, A110, H⟩ := H
        replace H : (if t238 = true then ((some (([] : List Int) : List Int)).bind fun y243 => (if y243.length + t235.length < 140737488355328 then (some ((y243 ++ t235), t239, t242)) else (none))) else (some (([] : List Int), t239, t242))) = some (r1, r2, r3) := H
        have A11 := Aside0.mk A110
        clear A110
        by_cases c12 : t238 = true
        · subst c12
          have H1 : ((some (([] : List Int) : List Int)).bind fun y243 => (if y243.length + t235.length < 140737488355328 then (some ((y243 ++ t235), t239, t242)) else (none))) = some (r1, r2, r3) := by rw [if_pos rfl] at H; exact H
          clear H
          have H := H1
          clear H1
          obtain ⟨y243, hy243⟩ : ∃ y_ : List Int, y_ = (([] : List Int)) := ⟨_, rfl⟩
          replace H : (if y243.length + t235.length < 140737488355328 then (some ((y243 ++ t235), t239, t242)) else (none)) = some (r1, r2, r3) := by first | (rw [hy243]; with_reducible exact H) | (have H2_ := (Option.bind_some _ _).symm.trans H; rw [hy243]; with_reducible exact H2_) | (have H2_ := (Option.bind_some _ _).symm.trans H; with_reducible exact H2_) | with_reducible exact H | (rw [hy243]; exact H) | exact H
          have Ny243 := Aside0.mk hy243
          clear hy243
          by_cases c13 : y243.length + t235.length < 140737488355328
          · rw [if_pos c13] at H
            have LMc13 := Aside0.mk c13
            clear c13
            obtain ⟨y246, hy246⟩ : ∃ y_ : List Int, y_ = (y243 ++ t235) := ⟨_, rfl⟩
            replace H : (some (y246, t239, t242)) = some (r1, r2, r3) := by first | (rw [hy246]; with_reducible exact H) | (have H2_ := (Option.bind_some _ _).symm.trans H; rw [hy246]; with_reducible exact H2_) | (have H2_ := (Option.bind_some _ _).symm.trans H; with_reducible exact H2_) | with_reducible exact H | (rw [hy246]; exact H) | exact H
            have Ny246 := Aside0.mk hy246
            clear hy246
            simp only [Option.some.injEq, Prod.mk.injEq] at H
            obtain ⟨rfl, rfl, rfl⟩ := H
            obtain ⟨Ao14, co14, eo14⟩ := Kd.V_slice HO_1000.out
            subst eo14
            go_wp2_with (first | ((with_reducible refine gate_callee (f := 60) rfl ?_); refine goesL_ (some 21) rfl rfl Try.func60 (by kernel_rfl) rfl #[.pointer (some ⟨g, 0, none⟩), .int .i64 22] rfl (by (try simp only [List.map_toArray, List.map_cons, List.map_nil]); first | done | rfl | (simp only [List.length_drop, List.length_take]; rfl)) ?_; (with_reducible refine (codec_Reader_Fail.calls g (fun k_ => ((P0_0_ k_ ∨ w.heap.size ≤ k_) ∧ k_ ≠ g)) Ao14 co14 t227 t230 22 t231 t234 w0 _ ?side2 ?side3 ?side1 ?side4 A10.out).mono ?_); (case side1 => repeat (first | (with_reducible first | exact HB.out | apply below_alloc | apply pw_below_drewN | apply below_drew1 | refine below_set ?_ GE0.out) | exact HB.out)); (case side2 => (with_reducible repeat (first | refine blk_drewN ?_ _ | refine blk_drew ?_ | refine blk_alloc ?_ _)); exact BK0.out); (case side3 => exact GE0.out); (case side4 => exact Kd.V_mono (HO_1000.out) (fun k_ hk_ => ⟨hk_, hk_.2⟩)); rintro e w15 ⟨v232, rfl, ho0, hbx, hb, hkp⟩; refine ⟨_, rfl, ?_⟩; have n0_ := Aside0.mk (Kd.V_mono (ok' := fun k_ => (P0_0_ k_ ∨ w.heap.size ≤ k_) ∧ k_ ≠ g) (Kd.V_keptB (HO_1000.out) hkp (fun k_ hk_ hs_ => (hk_.2) hs_)) (fun k_ hk_ => ⟨hk_.1.1, hk_.1.2⟩)); have n1_ := Aside0.mk (hbx); have n2_ := Aside0.mk (Kd.V_mono (ok' := fun k_ => (P0_0_ k_ ∨ w.heap.size ≤ k_) ∧ k_ ≠ g) ho0 (fun k_ hk_ => ⟨Or.elim hk_ (fun hs_ => hs_.1) (fun hn_ => (.inr (Nat.le_trans (by first | exact HK.out.1 | exact (show Kept w _ (fun k_ => k_ = g) from by repeat (first | (with_reducible first | exact HK.out | apply Kept.alloc | apply Kept.drewN | apply Kept.drew | refine Kept.setCell ?_ (.inl (show g = g from rfl)) _) | exact HK.out)).1) hn_))), Or.elim hk_ (fun hs_ => hs_.2) (fun hn_ => (Kd.freshB (g := g) (o := .cells #[.slice Ao14 t227.length co14, .int .i64 t230] 119 (0, 0)) (by (with_reducible repeat (first | refine blk_drewN ?_ _ | refine blk_drew ?_ | refine blk_alloc ?_ _)); exact BK0.out) k_ hn_))⟩)); have n3_ := Aside0.mk (Kept.then_ (S := (fun k_ => k_ = g)) (by repeat (first | (with_reducible first | exact HK.out | apply Kept.alloc | apply Kept.drewN | apply Kept.drew | refine Kept.setCell ?_ (.inl (show g = g from rfl)) _) | exact HK.out)) hkp (fun k_ hs_ => (fun e_ => .inl e_) hs_)); have n4_ := Aside0.mk (hb); clear HO_1000; clear BK0; clear HK; clear HB; have HO_1000 := n0_; have BK0 := n1_; have HO233 := n2_; have HK := n3_; have HB := n4_; clear n0_ n1_ n2_ n3_ n4_; (try clear hbx); (try clear hbn); (try clear hgn); (try clear hb); (try clear hkp); (try clear ho0); obtain ⟨Ao16, co16, eo16⟩ := Kd.V_slice HO233.out; subst eo16) | ((with_reducible refine gate_callee (f := 82) rfl ?_); refine goesL_ (some 25) rfl rfl Try.func82 (by kernel_rfl) rfl #[.pointer (some ⟨g, 0, none⟩), .int .i64 t226] rfl (by (try simp only [List.map_toArray, List.map_cons, List.map_nil]); first | done | rfl | (simp only [List.length_drop, List.length_take]; rfl)) ?_; (with_reducible refine (codec_Reader_take.calls g (fun k_ => ((P0_0_ k_ ∨ w.heap.size ≤ k_) ∧ k_ ≠ g)) Ao16 co16 t231 t234 t226 t235 true t239 t242 w0 _ ?side2 ?side3 ?side1 ?side4 A11.out).mono ?_); (case side1 => repeat (first | (with_reducible first | exact HB.out | apply below_alloc | apply pw_below_drewN | apply below_drew1 | refine below_set ?_ GE0.out) | exact HB.out)); (case side2 => (with_reducible repeat (first | refine blk_drewN ?_ _ | refine blk_drew ?_ | refine blk_alloc ?_ _)); exact BK0.out); (case side3 => exact GE0.out); (case side4 => exact Kd.V_mono (HO233.out) (fun k_ hk_ => ⟨hk_, hk_.2⟩)); rintro e w17 ⟨v236, v240, rfl, ho0, ho1, hbx, hb, hkp⟩; refine ⟨_, rfl, ?_⟩; have n0_ := Aside0.mk (Kd.V_mono (ok' := fun k_ => (P0_0_ k_ ∨ w.heap.size ≤ k_) ∧ k_ ≠ g) (Kd.V_keptB (HO_1000.out) hkp (fun k_ hk_ hs_ => (hk_.2) hs_)) (fun k_ hk_ => ⟨hk_.1.1, hk_.1.2⟩)); have n1_ := Aside0.mk (hbx); have n2_ := Aside0.mk (Kd.V_mono (ok' := fun k_ => (P0_0_ k_ ∨ w.heap.size ≤ k_) ∧ k_ ≠ g) (Kd.V_keptB (HO233.out) hkp (fun k_ hk_ hs_ => (hk_.2) hs_)) (fun k_ hk_ => ⟨hk_.1.1, hk_.1.2⟩)); have n3_ := Aside0.mk (Kd.V_mono (ok' := fun k_ => (P0_0_ k_ ∨ w.heap.size ≤ k_) ∧ k_ ≠ g) ho0 (fun k_ hk_ => ⟨Or.elim hk_ (fun hs_ => hs_.1) (fun hn_ => (.inr (Nat.le_trans (by first | exact HK.out.1 | exact (show Kept w _ (fun k_ => k_ = g) from by repeat (first | (with_reducible first | exact HK.out | apply Kept.alloc | apply Kept.drewN | apply Kept.drew | refine Kept.setCell ?_ (.inl (show g = g from rfl)) _) | exact HK.out)).1) hn_))), Or.elim hk_ (fun hs_ => hs_.2) (fun hn_ => (Kd.freshB (g := g) (o := .cells #[.slice Ao16 t231.length co16, .int .i64 t234] 119 (0, 0)) (by (with_reducible repeat (first | refine blk_drewN ?_ _ | refine blk_drew ?_ | refine blk_alloc ?_ _)); exact BK0.out) k_ hn_))⟩)); have n4_ := Aside0.mk (Kd.V_mono (ok' := fun k_ => (P0_0_ k_ ∨ w.heap.size ≤ k_) ∧ k_ ≠ g) ho1 (fun k_ hk_ => ⟨Or.elim hk_ (fun hs_ => hs_.1) (fun hn_ => (.inr (Nat.le_trans (by first | exact HK.out.1 | exact (show Kept w _ (fun k_ => k_ = g) from by repeat (first | (with_reducible first | exact HK.out | apply Kept.alloc | apply Kept.drewN | apply Kept.drew | refine Kept.setCell ?_ (.inl (show g = g from rfl)) _) | exact HK.out)).1) hn_))), Or.elim hk_ (fun hs_ => hs_.2) (fun hn_ => (Kd.freshB (g := g) (o := .cells #[.slice Ao16 t231.length co16, .int .i64 t234] 119 (0, 0)) (by (with_reducible repeat (first | refine blk_drewN ?_ _ | refine blk_drew ?_ | refine blk_alloc ?_ _)); exact BK0.out) k_ hn_))⟩)); have n5_ := Aside0.mk (Kept.then_ (S := (fun k_ => k_ = g)) (by repeat (first | (with_reducible first | exact HK.out | apply Kept.alloc | apply Kept.drewN | apply Kept.drew | refine Kept.setCell ?_ (.inl (show g = g from rfl)) _) | exact HK.out)) hkp (fun k_ hs_ => (fun e_ => .inl e_) hs_)); have n6_ := Aside0.mk (hb); clear HO_1000; clear BK0; clear HO233; clear HK; clear HB; have HO_1000 := n0_; have BK0 := n1_; have HO233 := n2_; have HO237 := n3_; have HO241 := n4_; have HK := n5_; have HB := n6_; clear n0_ n1_ n2_ n3_ n4_ n5_ n6_; (try clear hbx); (try clear hbn); (try clear hgn); (try clear hb); (try clear hkp); (try clear ho0); (try clear ho1)) | ((with_reducible refine gate_dst (N := 30) rfl ?_); refine Kd.R_lit (Kd.int .u8) _ 5 ?hg (N := 30) ?hd (xs := ([] : List Int)) (inner := []) (ok := fun _ => True) (okp := fun _ => True) ?hr ?hp (fun _ hk => hk) trivial (Below.refl _ _) (Nat.le_refl _) (by simp) ?_; (case hd => rfl); (case hg => rfl); (case hr => first | (go_simp; done) | (go_simp; rfl)); (case hp => exact (Reps.none _ _)); intro v244 w18 ho19 hb hg_ hnew_; clear hg_ hnew_; (first | rw [← Ny243.out] at ho19 | (simp only [Int.reduceToNat] at ho19; rw [← Ny243.out] at ho19)); have n0_ := Aside0.mk (Kd.V_elder' (by (with_reducible repeat (first | apply Kd.V_alloc | apply Kd.V_drewN | apply Kd.V_drew)); exact HO_1000.out) (Kd.R_base ho19) hb); have n1_ := Aside0.mk (Kd.V_elder' (by (with_reducible repeat (first | apply Kd.V_alloc | apply Kd.V_drewN | apply Kd.V_drew)); exact HO233.out) (Kd.R_base ho19) hb); have n2_ := Aside0.mk (Kd.V_elder' (by (with_reducible repeat (first | apply Kd.V_alloc | apply Kd.V_drewN | apply Kd.V_drew)); exact HO237.out) (Kd.R_base ho19) hb); have n3_ := Aside0.mk (Kd.V_elder' (by (with_reducible repeat (first | apply Kd.V_alloc | apply Kd.V_drewN | apply Kd.V_drew)); exact HO241.out) (Kd.R_base ho19) hb); have n4_ := Aside0.mk (Kd.R_lower (Kd.R_newM (M := fun k_ => (w.heap.size ≤ k_)) ho19 (by first | exact HK.out.1 | exact (show Kept w _ (fun k_ => k_ = g) from by repeat (first | (with_reducible first | exact HK.out | apply Kept.alloc | apply Kept.drewN | apply Kept.drew | refine Kept.setCell ?_ (.inl (show g = g from rfl)) _) | exact HK.out)).1) (fun k_ h_ => h_)) (below_size (by repeat (first | (with_reducible first | exact HB.out | apply below_alloc | apply pw_below_drewN | apply below_drew1 | refine below_set ?_ GE0.out) | exact HB.out)))); have n5_ := Aside0.mk (blk_below (g := g) (o := .cells #[v240, .int .i64 t242] 119 (0, 0)) (by (with_reducible repeat (first | refine blk_drewN ?_ _ | refine blk_drew ?_ | refine blk_alloc ?_ _)); exact BK0.out) hb); have n6_ := Aside0.mk (Kept.below (S := (fun k_ => k_ = g)) (by repeat (first | (with_reducible first | exact HK.out | apply Kept.alloc | apply Kept.drewN | apply Kept.drew | refine Kept.setCell ?_ (.inl (show g = g from rfl)) _) | exact HK.out)) hb); have n7_ := Aside0.mk (below_step (by repeat (first | (with_reducible first | exact HB.out | apply below_alloc | apply pw_below_drewN | apply below_drew1 | refine below_set ?_ GE0.out) | exact HB.out)) hb); clear HO_1000; clear HO233; clear HO237; clear HO241; clear BK0; clear HK; clear HB; have HO_1000 := n0_; have HO233 := n1_; have HO237 := n2_; have HO241 := n3_; have HO245 := n4_; have BK0 := n5_; have HK := n6_; have HB := n7_; clear n0_ n1_ n2_ n3_ n4_ n5_ n6_ n7_; clear hb ho19; obtain ⟨Ao21, co21, eo21⟩ := Kd.V_slice HO237.out; subst eo21) | ((with_reducible refine gate_builtin (b := .append) (xs := #[.tmp 30, .tmp 31]) rfl ?_); at_builtin; refine Kd.R_append_rows (Kd.int .u8) (w0 := w0) w0.heap.size rfl (.tmp 30) (.tmp 31) 28 5 (.int .u8 0) 1 rfl Try.underlying28 info5 rfl (by decide) (by omega) v244 y243 t235 _ _ _ (fun k_ => (w.heap.size ≤ k_)) (fun _ => False) rfl rfl ?aO ?aR (fun _ _ h => h) (fun _ h => h.elim) ?aF ?aB ?aS ?aL ?_; (case aR => repeat (first | exact (Kd.V_reads' HO237.out).2.2 | (with_reducible refine Kd.C_alloc ?_ _) | (with_reducible refine Kd.C_drewN ?_ _) | (with_reducible refine Kd.C_drew ?_))); (case aB => exact (by repeat (first | (with_reducible first | exact HB.out | apply below_alloc | apply pw_below_drewN | apply below_drew1 | refine below_set ?_ GE0.out) | exact HB.out))); (case aF => exact (fun k_ hk => (Nat.le_trans (by first | exact HK.out.1 | exact (show Kept w _ (fun k_ => k_ = g) from by repeat (first | (with_reducible first | exact HK.out | apply Kept.alloc | apply Kept.drewN | apply Kept.drew | refine Kept.setCell ?_ (.inl (show g = g from rfl)) _) | exact HK.out)).1) hk))); (case aO => exact (by (with_reducible repeat (first | apply Kd.R_alloc | apply Kd.R_drewN | apply Kd.R_drew)); exact Kd.R_mono HO245.out (fun _ hk => hk.1))); (case aS => exact (below_size (by repeat (first | (with_reducible first | exact HB.out | apply below_alloc | apply pw_below_drewN | apply below_drew1 | refine below_set ?_ GE0.out) | exact HB.out)))); (case aL => have := LMc13.out; omega); intro v247 w20 ho hb hg hat; rw [← Ny246.out] at ho; have n0_ := Aside0.mk (Kd.V_afterv (ok := (fun k_ => (P0_0_ k_ ∨ w.heap.size ≤ k_) ∧ k_ ≠ g)) (by (with_reducible repeat (first | apply Kd.V_alloc | apply Kd.V_drewN | apply Kd.V_drew)); exact HO_1000.out) hg hat); have n1_ := Aside0.mk (blk_grown (g := g) (o := .cells #[v240, .int .i64 t242] 119 (0, 0)) (by (with_reducible repeat (first | refine blk_drewN ?_ _ | refine blk_drew ?_ | refine blk_alloc ?_ _)); exact BK0.out) hg (Kd.R_ne HO245.out BK0.out (by decide))); have n2_ := Aside0.mk (Kd.V_afterv (ok := (fun k_ => (P0_0_ k_ ∨ w.heap.size ≤ k_) ∧ k_ ≠ g)) (by (with_reducible repeat (first | apply Kd.V_alloc | apply Kd.V_drewN | apply Kd.V_drew)); exact HO233.out) hg hat); have n3_ := Aside0.mk (Kd.V_afterv (ok := (fun k_ => (P0_0_ k_ ∨ w.heap.size ≤ k_) ∧ k_ ≠ g)) (by (with_reducible repeat (first | apply Kd.V_alloc | apply Kd.V_drewN | apply Kd.V_drew)); exact HO237.out) hg hat); have n4_ := Aside0.mk (Kd.V_afterv (ok := (fun k_ => (P0_0_ k_ ∨ w.heap.size ≤ k_) ∧ k_ ≠ g)) (by (with_reducible repeat (first | apply Kd.V_alloc | apply Kd.V_drewN | apply Kd.V_drew)); exact HO241.out) hg hat); have n5_ := Aside0.mk (hb); have n6_ := Aside0.mk (Kept.of_grown (S := (fun k_ => k_ = g)) hg (by repeat (first | (with_reducible first | exact HK.out | apply Kept.alloc | apply Kept.drewN | apply Kept.drew | refine Kept.setCell ?_ (.inl (show g = g from rfl)) _) | exact HK.out)) (fun k_ e_ => .inr ((HO245.out.1 k_ e_).1))); have n7_ := Aside0.mk (ho); clear HO_1000; clear BK0; clear HO233; clear HO237; clear HO241; clear HB; clear HK; clear HO245; have HO_1000 := n0_; have BK0 := n1_; have HO233 := n2_; have HO237 := n3_; have HO241 := n4_; have HB := n5_; have HK := n6_; have HO248 := n7_; clear n0_ n1_ n2_ n3_ n4_ n5_ n6_ n7_; clear ho hb hg hat))
            go_ret
            exact ⟨_, (v240), by first | rfl | (simp [errW_none, errW_some, ptrW_true, ptrW_false] <;> rfl) | (simp [*, errW_none, errW_some, ptrW_true, ptrW_false] <;> rfl), by (with_reducible repeat (first | apply Kd.R_alloc | apply Kd.R_drewN | apply Kd.R_drew)); exact HO248.out, by (with_reducible repeat (first | apply Kd.V_alloc | apply Kd.V_drewN | apply Kd.V_drew)); exact Kd.V_mono HO241.out (fun _ hk => ⟨hk.1.1, hk.2⟩), (by (with_reducible repeat (first | refine blk_drewN ?_ _ | refine blk_drew ?_ | refine blk_alloc ?_ _)); exact BK0.out), by repeat (first | (with_reducible first | exact HB.out | apply below_alloc | apply pw_below_drewN | apply below_drew1 | refine below_set ?_ GE0.out) | exact HB.out), by repeat (first | (with_reducible first | exact HK.out | apply Kept.alloc | apply Kept.drewN | apply Kept.drew | refine Kept.setCell ?_ (.inl (show g = g from rfl)) _) | exact HK.out)⟩
          · rw [if_neg c13] at H
            exact absurd H (by simp)
        · replace c12 := Bool.eq_false_iff.mpr c12
          subst c12
          have H1 : (some (([] : List Int), t239, t242)) = some (r1, r2, r3) := by rw [if_neg (show ¬ (false = true) by decide)] at H; exact H
          clear H
          have H := H1
          clear H1
          simp only [Option.some.injEq, Prod.mk.injEq] at H
          obtain ⟨rfl, rfl, rfl⟩ := H
          obtain ⟨Ao22, co22, eo22⟩ := Kd.V_slice HO_1000.out
          subst eo22
          go_wp2_with (first | ((with_reducible refine gate_callee (f := 60) rfl ?_); refine goesL_ (some 21) rfl rfl Try.func60 (by kernel_rfl) rfl #[.pointer (some ⟨g, 0, none⟩), .int .i64 22] rfl (by (try simp only [List.map_toArray, List.map_cons, List.map_nil]); first | done | rfl | (simp only [List.length_drop, List.length_take]; rfl)) ?_; (with_reducible refine (codec_Reader_Fail.calls g (fun k_ => ((P0_0_ k_ ∨ w.heap.size ≤ k_) ∧ k_ ≠ g)) Ao22 co22 t227 t230 22 t231 t234 w0 _ ?side2 ?side3 ?side1 ?side4 A10.out).mono ?_); (case side1 => repeat (first | (with_reducible first | exact HB.out | apply below_alloc | apply pw_below_drewN | apply below_drew1 | refine below_set ?_ GE0.out) | exact HB.out)); (case side2 => (with_reducible repeat (first | refine blk_drewN ?_ _ | refine blk_drew ?_ | refine blk_alloc ?_ _)); exact BK0.out); (case side3 => exact GE0.out); (case side4 => exact Kd.V_mono (HO_1000.out) (fun k_ hk_ => ⟨hk_, hk_.2⟩)); rintro e w23 ⟨v232, rfl, ho0, hbx, hb, hkp⟩; refine ⟨_, rfl, ?_⟩; have n0_ := Aside0.mk (Kd.V_mono (ok' := fun k_ => (P0_0_ k_ ∨ w.heap.size ≤ k_) ∧ k_ ≠ g) (Kd.V_keptB (HO_1000.out) hkp (fun k_ hk_ hs_ => (hk_.2) hs_)) (fun k_ hk_ => ⟨hk_.1.1, hk_.1.2⟩)); have n1_ := Aside0.mk (hbx); have n2_ := Aside0.mk (Kd.V_mono (ok' := fun k_ => (P0_0_ k_ ∨ w.heap.size ≤ k_) ∧ k_ ≠ g) ho0 (fun k_ hk_ => ⟨Or.elim hk_ (fun hs_ => hs_.1) (fun hn_ => (.inr (Nat.le_trans (by first | exact HK.out.1 | exact (show Kept w _ (fun k_ => k_ = g) from by repeat (first | (with_reducible first | exact HK.out | apply Kept.alloc | apply Kept.drewN | apply Kept.drew | refine Kept.setCell ?_ (.inl (show g = g from rfl)) _) | exact HK.out)).1) hn_))), Or.elim hk_ (fun hs_ => hs_.2) (fun hn_ => (Kd.freshB (g := g) (o := .cells #[.slice Ao22 t227.length co22, .int .i64 t230] 119 (0, 0)) (by (with_reducible repeat (first | refine blk_drewN ?_ _ | refine blk_drew ?_ | refine blk_alloc ?_ _)); exact BK0.out) k_ hn_))⟩)); have n3_ := Aside0.mk (Kept.then_ (S := (fun k_ => k_ = g)) (by repeat (first | (with_reducible first | exact HK.out | apply Kept.alloc | apply Kept.drewN | apply Kept.drew | refine Kept.setCell ?_ (.inl (show g = g from rfl)) _) | exact HK.out)) hkp (fun k_ hs_ => (fun e_ => .inl e_) hs_)); have n4_ := Aside0.mk (hb); clear HO_1000; clear BK0; clear HK; clear HB; have HO_1000 := n0_; have BK0 := n1_; have HO233 := n2_; have HK := n3_; have HB := n4_; clear n0_ n1_ n2_ n3_ n4_; (try clear hbx); (try clear hbn); (try clear hgn); (try clear hb); (try clear hkp); (try clear ho0); obtain ⟨Ao24, co24, eo24⟩ := Kd.V_slice HO233.out; subst eo24) | ((with_reducible refine gate_callee (f := 82) rfl ?_); refine goesL_ (some 25) rfl rfl Try.func82 (by kernel_rfl) rfl #[.pointer (some ⟨g, 0, none⟩), .int .i64 t226] rfl (by (try simp only [List.map_toArray, List.map_cons, List.map_nil]); first | done | rfl | (simp only [List.length_drop, List.length_take]; rfl)) ?_; (with_reducible refine (codec_Reader_take.calls g (fun k_ => ((P0_0_ k_ ∨ w.heap.size ≤ k_) ∧ k_ ≠ g)) Ao24 co24 t231 t234 t226 t235 false t239 t242 w0 _ ?side2 ?side3 ?side1 ?side4 A11.out).mono ?_); (case side1 => repeat (first | (with_reducible first | exact HB.out | apply below_alloc | apply pw_below_drewN | apply below_drew1 | refine below_set ?_ GE0.out) | exact HB.out)); (case side2 => (with_reducible repeat (first | refine blk_drewN ?_ _ | refine blk_drew ?_ | refine blk_alloc ?_ _)); exact BK0.out); (case side3 => exact GE0.out); (case side4 => exact Kd.V_mono (HO233.out) (fun k_ hk_ => ⟨hk_, hk_.2⟩)); rintro e w25 ⟨v236, v240, rfl, ho0, ho1, hbx, hb, hkp⟩; refine ⟨_, rfl, ?_⟩; have n0_ := Aside0.mk (Kd.V_mono (ok' := fun k_ => (P0_0_ k_ ∨ w.heap.size ≤ k_) ∧ k_ ≠ g) (Kd.V_keptB (HO_1000.out) hkp (fun k_ hk_ hs_ => (hk_.2) hs_)) (fun k_ hk_ => ⟨hk_.1.1, hk_.1.2⟩)); have n1_ := Aside0.mk (hbx); have n2_ := Aside0.mk (Kd.V_mono (ok' := fun k_ => (P0_0_ k_ ∨ w.heap.size ≤ k_) ∧ k_ ≠ g) (Kd.V_keptB (HO233.out) hkp (fun k_ hk_ hs_ => (hk_.2) hs_)) (fun k_ hk_ => ⟨hk_.1.1, hk_.1.2⟩)); have n3_ := Aside0.mk (Kd.V_mono (ok' := fun k_ => (P0_0_ k_ ∨ w.heap.size ≤ k_) ∧ k_ ≠ g) ho0 (fun k_ hk_ => ⟨Or.elim hk_ (fun hs_ => hs_.1) (fun hn_ => (.inr (Nat.le_trans (by first | exact HK.out.1 | exact (show Kept w _ (fun k_ => k_ = g) from by repeat (first | (with_reducible first | exact HK.out | apply Kept.alloc | apply Kept.drewN | apply Kept.drew | refine Kept.setCell ?_ (.inl (show g = g from rfl)) _) | exact HK.out)).1) hn_))), Or.elim hk_ (fun hs_ => hs_.2) (fun hn_ => (Kd.freshB (g := g) (o := .cells #[.slice Ao24 t231.length co24, .int .i64 t234] 119 (0, 0)) (by (with_reducible repeat (first | refine blk_drewN ?_ _ | refine blk_drew ?_ | refine blk_alloc ?_ _)); exact BK0.out) k_ hn_))⟩)); have n4_ := Aside0.mk (Kd.V_mono (ok' := fun k_ => (P0_0_ k_ ∨ w.heap.size ≤ k_) ∧ k_ ≠ g) ho1 (fun k_ hk_ => ⟨Or.elim hk_ (fun hs_ => hs_.1) (fun hn_ => (.inr (Nat.le_trans (by first | exact HK.out.1 | exact (show Kept w _ (fun k_ => k_ = g) from by repeat (first | (with_reducible first | exact HK.out | apply Kept.alloc | apply Kept.drewN | apply Kept.drew | refine Kept.setCell ?_ (.inl (show g = g from rfl)) _) | exact HK.out)).1) hn_))), Or.elim hk_ (fun hs_ => hs_.2) (fun hn_ => (Kd.freshB (g := g) (o := .cells #[.slice Ao24 t231.length co24, .int .i64 t234] 119 (0, 0)) (by (with_reducible repeat (first | refine blk_drewN ?_ _ | refine blk_drew ?_ | refine blk_alloc ?_ _)); exact BK0.out) k_ hn_))⟩)); have n5_ := Aside0.mk (Kept.then_ (S := (fun k_ => k_ = g)) (by repeat (first | (with_reducible first | exact HK.out | apply Kept.alloc | apply Kept.drewN | apply Kept.drew | refine Kept.setCell ?_ (.inl (show g = g from rfl)) _) | exact HK.out)) hkp (fun k_ hs_ => (fun e_ => .inl e_) hs_)); have n6_ := Aside0.mk (hb); clear HO_1000; clear BK0; clear HO233; clear HK; clear HB; have HO_1000 := n0_; have BK0 := n1_; have HO233 := n2_; have HO237 := n3_; have HO241 := n4_; have HK := n5_; have HB := n6_; clear n0_ n1_ n2_ n3_ n4_ n5_ n6_; (try clear hbx); (try clear hbn); (try clear hgn); (try clear hb); (try clear hkp); (try clear ho0); (try clear ho1)))
          go_ret
          exact ⟨_, (v240), by first | rfl | (simp [errW_none, errW_some, ptrW_true, ptrW_false] <;> rfl) | (simp [*, errW_none, errW_some, ptrW_true, ptrW_false] <;> rfl), by first | exact Kd.R_nil _ _ _ _ _ | exact Kd.N_nil _ _ _ _ _ | exact Kd.V_nil _ _ _ _ _ | exact Kd.Q_nil _ _ _ _ _ | exact Kd.S_nil _ _ _ _ _, by (with_reducible repeat (first | apply Kd.V_alloc | apply Kd.V_drewN | apply Kd.V_drew)); exact Kd.V_mono HO241.out (fun _ hk => ⟨hk.1, (by simp [Value.ownBlock])⟩), (by (with_reducible repeat (first | refine blk_drewN ?_ _ | refine blk_drew ?_ | refine blk_alloc ?_ _)); exact BK0.out), by repeat (first | (with_reducible first | exact HB.out | apply below_alloc | apply pw_below_drewN | apply below_drew1 | refine below_set ?_ GE0.out) | exact HB.out), by repeat (first | (with_reducible first | exact HK.out | apply Kept.alloc | apply Kept.drewN | apply Kept.drew | refine Kept.setCell ?_ (.inl (show g = g from rfl)) _) | exact HK.out)⟩
      · replace c9 := Bool.eq_false_iff.mpr c9
        subst c9
        have H1 : ((codec_Reader_take.f t227 t230 t226).bind fun bt249 => (if bt249.2.1 = true then ((some (([] : List Int) : List Int)).bind fun y257 => (if y257.length + bt249.1.length < 140737488355328 then (some ((y257 ++ bt249.1), bt249.2.2.1, bt249.2.2.2)) else (none))) else (some (([] : List Int), bt249.2.2.1, bt249.2.2.2)))) = some (r1, r2, r3) := by rw [if_neg (show ¬ (false = true) by decide)] at H; exact H
        clear H
        have H := H1
        clear H1
        replace H := Option.bind_eq_some_iff.mp H
        obtain ⟨⟨t249, t252, t253, t256⟩, A260, H⟩ := H
        replace H : (if t252 = true then ((some (([] : List Int) : List Int)).bind fun y257 => (if y257.length + t249.length < 140737488355328 then (some ((y257 ++ t249), t253, t256)) else (none))) else (some (([] : List Int), t253, t256))) = some (r1, r2, r3) := H
        have A26 := Aside0.mk A260
        clear A260
        by_cases c27 : t252 = true
        · subst c27
          have H1 : ((some (([] : List Int) : List Int)).bind fun y257 => (if y257.length + t249.length < 140737488355328 then (some ((y257 ++ t249), t253, t256)) else (none))) = some (r1, r2, r3) := by rw [if_pos rfl] at H; exact H
          clear H
          have H := H1
          clear H1
          obtain ⟨y257, hy257⟩ : ∃ y_ : List Int, y_ = (([] : List Int)) := ⟨_, rfl⟩
          replace H : (if y257.length + t249.length < 140737488355328 then (some ((y257 ++ t249), t253, t256)) else (none)) = some (r1, r2, r3) := by first | (rw [hy257]; with_reducible exact H) | (have H2_ := (Option.bind_some _ _).symm.trans H; rw [hy257]; with_reducible exact H2_) | (have H2_ := (Option.bind_some _ _).symm.trans H; with_reducible exact H2_) | with_reducible exact H | (rw [hy257]; exact H) | exact H
          have Ny257 := Aside0.mk hy257
          clear hy257
          by_cases c28 : y257.length + t249.length < 140737488355328
          · rw [if_pos c28] at H
            have LMc28 := Aside0.mk c28
            clear c28
            obtain ⟨y260, hy260⟩ : ∃ y_ : List Int, y_ = (y257 ++ t249) := ⟨_, rfl⟩
            replace H : (some (y260, t253, t256)) = some (r1, r2, r3) := by first | (rw [hy260]; with_reducible exact H) | (have H2_ := (Option.bind_some _ _).symm.trans H; rw [hy260]; with_reducible exact H2_) | (have H2_ := (Option.bind_some _ _).symm.trans H; with_reducible exact H2_) | with_reducible exact H | (rw [hy260]; exact H) | exact H
            have Ny260 := Aside0.mk hy260
            clear hy260
            simp only [Option.some.injEq, Prod.mk.injEq] at H
            obtain ⟨rfl, rfl, rfl⟩ := H
            obtain ⟨Ao29, co29, eo29⟩ := Kd.V_slice HO_1000.out
            subst eo29
            go_wp2_with (first | ((with_reducible refine gate_callee (f := 82) rfl ?_); refine goesL_ (some 25) rfl rfl Try.func82 (by kernel_rfl) rfl #[.pointer (some ⟨g, 0, none⟩), .int .i64 t226] rfl (by (try simp only [List.map_toArray, List.map_cons, List.map_nil]); first | done | rfl | (simp only [List.length_drop, List.length_take]; rfl)) ?_; (with_reducible refine (codec_Reader_take.calls g (fun k_ => ((P0_0_ k_ ∨ w.heap.size ≤ k_) ∧ k_ ≠ g)) Ao29 co29 t227 t230 t226 t249 true t253 t256 w0 _ ?side2 ?side3 ?side1 ?side4 A26.out).mono ?_); (case side1 => repeat (first | (with_reducible first | exact HB.out | apply below_alloc | apply pw_below_drewN | apply below_drew1 | refine below_set ?_ GE0.out) | exact HB.out)); (case side2 => (with_reducible repeat (first | refine blk_drewN ?_ _ | refine blk_drew ?_ | refine blk_alloc ?_ _)); exact BK0.out); (case side3 => exact GE0.out); (case side4 => exact Kd.V_mono (HO_1000.out) (fun k_ hk_ => ⟨hk_, hk_.2⟩)); rintro e w30 ⟨v250, v254, rfl, ho0, ho1, hbx, hb, hkp⟩; refine ⟨_, rfl, ?_⟩; have n0_ := Aside0.mk (Kd.V_mono (ok' := fun k_ => (P0_0_ k_ ∨ w.heap.size ≤ k_) ∧ k_ ≠ g) (Kd.V_keptB (HO_1000.out) hkp (fun k_ hk_ hs_ => (hk_.2) hs_)) (fun k_ hk_ => ⟨hk_.1.1, hk_.1.2⟩)); have n1_ := Aside0.mk (hbx); have n2_ := Aside0.mk (Kd.V_mono (ok' := fun k_ => (P0_0_ k_ ∨ w.heap.size ≤ k_) ∧ k_ ≠ g) ho0 (fun k_ hk_ => ⟨Or.elim hk_ (fun hs_ => hs_.1) (fun hn_ => (.inr (Nat.le_trans (by first | exact HK.out.1 | exact (show Kept w _ (fun k_ => k_ = g) from by repeat (first | (with_reducible first | exact HK.out | apply Kept.alloc | apply Kept.drewN | apply Kept.drew | refine Kept.setCell ?_ (.inl (show g = g from rfl)) _) | exact HK.out)).1) hn_))), Or.elim hk_ (fun hs_ => hs_.2) (fun hn_ => (Kd.freshB (g := g) (o := .cells #[.slice Ao29 t227.length co29, .int .i64 t230] 119 (0, 0)) (by (with_reducible repeat (first | refine blk_drewN ?_ _ | refine blk_drew ?_ | refine blk_alloc ?_ _)); exact BK0.out) k_ hn_))⟩)); have n3_ := Aside0.mk (Kd.V_mono (ok' := fun k_ => (P0_0_ k_ ∨ w.heap.size ≤ k_) ∧ k_ ≠ g) ho1 (fun k_ hk_ => ⟨Or.elim hk_ (fun hs_ => hs_.1) (fun hn_ => (.inr (Nat.le_trans (by first | exact HK.out.1 | exact (show Kept w _ (fun k_ => k_ = g) from by repeat (first | (with_reducible first | exact HK.out | apply Kept.alloc | apply Kept.drewN | apply Kept.drew | refine Kept.setCell ?_ (.inl (show g = g from rfl)) _) | exact HK.out)).1) hn_))), Or.elim hk_ (fun hs_ => hs_.2) (fun hn_ => (Kd.freshB (g := g) (o := .cells #[.slice Ao29 t227.length co29, .int .i64 t230] 119 (0, 0)) (by (with_reducible repeat (first | refine blk_drewN ?_ _ | refine blk_drew ?_ | refine blk_alloc ?_ _)); exact BK0.out) k_ hn_))⟩)); have n4_ := Aside0.mk (Kept.then_ (S := (fun k_ => k_ = g)) (by repeat (first | (with_reducible first | exact HK.out | apply Kept.alloc | apply Kept.drewN | apply Kept.drew | refine Kept.setCell ?_ (.inl (show g = g from rfl)) _) | exact HK.out)) hkp (fun k_ hs_ => (fun e_ => .inl e_) hs_)); have n5_ := Aside0.mk (hb); clear HO_1000; clear BK0; clear HK; clear HB; have HO_1000 := n0_; have BK0 := n1_; have HO251 := n2_; have HO255 := n3_; have HK := n4_; have HB := n5_; clear n0_ n1_ n2_ n3_ n4_ n5_; (try clear hbx); (try clear hbn); (try clear hgn); (try clear hb); (try clear hkp); (try clear ho0); (try clear ho1)) | ((with_reducible refine gate_dst (N := 30) rfl ?_); refine Kd.R_lit (Kd.int .u8) _ 5 ?hg (N := 30) ?hd (xs := ([] : List Int)) (inner := []) (ok := fun _ => True) (okp := fun _ => True) ?hr ?hp (fun _ hk => hk) trivial (Below.refl _ _) (Nat.le_refl _) (by simp) ?_; (case hd => rfl); (case hg => rfl); (case hr => first | (go_simp; done) | (go_simp; rfl)); (case hp => exact (Reps.none _ _)); intro v258 w31 ho32 hb hg_ hnew_; clear hg_ hnew_; (first | rw [← Ny257.out] at ho32 | (simp only [Int.reduceToNat] at ho32; rw [← Ny257.out] at ho32)); have n0_ := Aside0.mk (Kd.V_elder' (by (with_reducible repeat (first | apply Kd.V_alloc | apply Kd.V_drewN | apply Kd.V_drew)); exact HO_1000.out) (Kd.R_base ho32) hb); have n1_ := Aside0.mk (Kd.V_elder' (by (with_reducible repeat (first | apply Kd.V_alloc | apply Kd.V_drewN | apply Kd.V_drew)); exact HO251.out) (Kd.R_base ho32) hb); have n2_ := Aside0.mk (Kd.V_elder' (by (with_reducible repeat (first | apply Kd.V_alloc | apply Kd.V_drewN | apply Kd.V_drew)); exact HO255.out) (Kd.R_base ho32) hb); have n3_ := Aside0.mk (Kd.R_lower (Kd.R_newM (M := fun k_ => (w.heap.size ≤ k_)) ho32 (by first | exact HK.out.1 | exact (show Kept w _ (fun k_ => k_ = g) from by repeat (first | (with_reducible first | exact HK.out | apply Kept.alloc | apply Kept.drewN | apply Kept.drew | refine Kept.setCell ?_ (.inl (show g = g from rfl)) _) | exact HK.out)).1) (fun k_ h_ => h_)) (below_size (by repeat (first | (with_reducible first | exact HB.out | apply below_alloc | apply pw_below_drewN | apply below_drew1 | refine below_set ?_ GE0.out) | exact HB.out)))); have n4_ := Aside0.mk (blk_below (g := g) (o := .cells #[v254, .int .i64 t256] 119 (0, 0)) (by (with_reducible repeat (first | refine blk_drewN ?_ _ | refine blk_drew ?_ | refine blk_alloc ?_ _)); exact BK0.out) hb); have n5_ := Aside0.mk (Kept.below (S := (fun k_ => k_ = g)) (by repeat (first | (with_reducible first | exact HK.out | apply Kept.alloc | apply Kept.drewN | apply Kept.drew | refine Kept.setCell ?_ (.inl (show g = g from rfl)) _) | exact HK.out)) hb); have n6_ := Aside0.mk (below_step (by repeat (first | (with_reducible first | exact HB.out | apply below_alloc | apply pw_below_drewN | apply below_drew1 | refine below_set ?_ GE0.out) | exact HB.out)) hb); clear HO_1000; clear HO251; clear HO255; clear BK0; clear HK; clear HB; have HO_1000 := n0_; have HO251 := n1_; have HO255 := n2_; have HO259 := n3_; have BK0 := n4_; have HK := n5_; have HB := n6_; clear n0_ n1_ n2_ n3_ n4_ n5_ n6_; clear hb ho32; obtain ⟨Ao34, co34, eo34⟩ := Kd.V_slice HO251.out; subst eo34) | ((with_reducible refine gate_builtin (b := .append) (xs := #[.tmp 30, .tmp 31]) rfl ?_); at_builtin; refine Kd.R_append_rows (Kd.int .u8) (w0 := w0) w0.heap.size rfl (.tmp 30) (.tmp 31) 28 5 (.int .u8 0) 1 rfl Try.underlying28 info5 rfl (by decide) (by omega) v258 y257 t249 _ _ _ (fun k_ => (w.heap.size ≤ k_)) (fun _ => False) rfl rfl ?aO ?aR (fun _ _ h => h) (fun _ h => h.elim) ?aF ?aB ?aS ?aL ?_; (case aR => repeat (first | exact (Kd.V_reads' HO251.out).2.2 | (with_reducible refine Kd.C_alloc ?_ _) | (with_reducible refine Kd.C_drewN ?_ _) | (with_reducible refine Kd.C_drew ?_))); (case aB => exact (by repeat (first | (with_reducible first | exact HB.out | apply below_alloc | apply pw_below_drewN | apply below_drew1 | refine below_set ?_ GE0.out) | exact HB.out))); (case aF => exact (fun k_ hk => (Nat.le_trans (by first | exact HK.out.1 | exact (show Kept w _ (fun k_ => k_ = g) from by repeat (first | (with_reducible first | exact HK.out | apply Kept.alloc | apply Kept.drewN | apply Kept.drew | refine Kept.setCell ?_ (.inl (show g = g from rfl)) _) | exact HK.out)).1) hk))); (case aO => exact (by (with_reducible repeat (first | apply Kd.R_alloc | apply Kd.R_drewN | apply Kd.R_drew)); exact Kd.R_mono HO259.out (fun _ hk => hk.1))); (case aS => exact (below_size (by repeat (first | (with_reducible first | exact HB.out | apply below_alloc | apply pw_below_drewN | apply below_drew1 | refine below_set ?_ GE0.out) | exact HB.out)))); (case aL => have := LMc28.out; omega); intro v261 w33 ho hb hg hat; rw [← Ny260.out] at ho; have n0_ := Aside0.mk (Kd.V_afterv (ok := (fun k_ => (P0_0_ k_ ∨ w.heap.size ≤ k_) ∧ k_ ≠ g)) (by (with_reducible repeat (first | apply Kd.V_alloc | apply Kd.V_drewN | apply Kd.V_drew)); exact HO_1000.out) hg hat); have n1_ := Aside0.mk (blk_grown (g := g) (o := .cells #[v254, .int .i64 t256] 119 (0, 0)) (by (with_reducible repeat (first | refine blk_drewN ?_ _ | refine blk_drew ?_ | refine blk_alloc ?_ _)); exact BK0.out) hg (Kd.R_ne HO259.out BK0.out (by decide))); have n2_ := Aside0.mk (Kd.V_afterv (ok := (fun k_ => (P0_0_ k_ ∨ w.heap.size ≤ k_) ∧ k_ ≠ g)) (by (with_reducible repeat (first | apply Kd.V_alloc | apply Kd.V_drewN | apply Kd.V_drew)); exact HO251.out) hg hat); have n3_ := Aside0.mk (Kd.V_afterv (ok := (fun k_ => (P0_0_ k_ ∨ w.heap.size ≤ k_) ∧ k_ ≠ g)) (by (with_reducible repeat (first | apply Kd.V_alloc | apply Kd.V_drewN | apply Kd.V_drew)); exact HO255.out) hg hat); have n4_ := Aside0.mk (hb); have n5_ := Aside0.mk (Kept.of_grown (S := (fun k_ => k_ = g)) hg (by repeat (first | (with_reducible first | exact HK.out | apply Kept.alloc | apply Kept.drewN | apply Kept.drew | refine Kept.setCell ?_ (.inl (show g = g from rfl)) _) | exact HK.out)) (fun k_ e_ => .inr ((HO259.out.1 k_ e_).1))); have n6_ := Aside0.mk (ho); clear HO_1000; clear BK0; clear HO251; clear HO255; clear HB; clear HK; clear HO259; have HO_1000 := n0_; have BK0 := n1_; have HO251 := n2_; have HO255 := n3_; have HB := n4_; have HK := n5_; have HO262 := n6_; clear n0_ n1_ n2_ n3_ n4_ n5_ n6_; clear ho hb hg hat))
            go_ret
            exact ⟨_, (v254), by first | rfl | (simp [errW_none, errW_some, ptrW_true, ptrW_false] <;> rfl) | (simp [*, errW_none, errW_some, ptrW_true, ptrW_false] <;> rfl), by (with_reducible repeat (first | apply Kd.R_alloc | apply Kd.R_drewN | apply Kd.R_drew)); exact HO262.out, by (with_reducible repeat (first | apply Kd.V_alloc | apply Kd.V_drewN | apply Kd.V_drew)); exact Kd.V_mono HO255.out (fun _ hk => ⟨hk.1.1, hk.2⟩), (by (with_reducible repeat (first | refine blk_drewN ?_ _ | refine blk_drew ?_ | refine blk_alloc ?_ _)); exact BK0.out), by repeat (first | (with_reducible first | exact HB.out | apply below_alloc | apply pw_below_drewN | apply below_drew1 | refine below_set ?_ GE0.out) | exact HB.out), by repeat (first | (with_reducible first | exact HK.out | apply Kept.alloc | apply Kept.drewN | apply Kept.drew | refine Kept.setCell ?_ (.inl (show g = g from rfl)) _) | exact HK.out)⟩
          · rw [if_neg c28] at H
            exact absurd H (by simp)
        · replace c27 := Bool.eq_false_iff.mpr c27
          subst c27
          have H1 : (some (([] : List Int), t253, t256)) = some (r1, r2, r3) := by rw [if_neg (show ¬ (false = true) by decide)] at H; exact H
          clear H
          have H := H1
          clear H1
          simp only [Option.some.injEq, Prod.mk.injEq] at H
          obtain ⟨rfl, rfl, rfl⟩ := H
          obtain ⟨Ao35, co35, eo35⟩ := Kd.V_slice HO_1000.out
          subst eo35
          go_wp2_with (first | ((with_reducible refine gate_callee (f := 82) rfl ?_); refine goesL_ (some 25) rfl rfl Try.func82 (by kernel_rfl) rfl #[.pointer (some ⟨g, 0, none⟩), .int .i64 t226] rfl (by (try simp only [List.map_toArray, List.map_cons, List.map_nil]); first | done | rfl | (simp only [List.length_drop, List.length_take]; rfl)) ?_; (with_reducible refine (codec_Reader_take.calls g (fun k_ => ((P0_0_ k_ ∨ w.heap.size ≤ k_) ∧ k_ ≠ g)) Ao35 co35 t227 t230 t226 t249 false t253 t256 w0 _ ?side2 ?side3 ?side1 ?side4 A26.out).mono ?_); (case side1 => repeat (first | (with_reducible first | exact HB.out | apply below_alloc | apply pw_below_drewN | apply below_drew1 | refine below_set ?_ GE0.out) | exact HB.out)); (case side2 => (with_reducible repeat (first | refine blk_drewN ?_ _ | refine blk_drew ?_ | refine blk_alloc ?_ _)); exact BK0.out); (case side3 => exact GE0.out); (case side4 => exact Kd.V_mono (HO_1000.out) (fun k_ hk_ => ⟨hk_, hk_.2⟩)); rintro e w36 ⟨v250, v254, rfl, ho0, ho1, hbx, hb, hkp⟩; refine ⟨_, rfl, ?_⟩; have n0_ := Aside0.mk (Kd.V_mono (ok' := fun k_ => (P0_0_ k_ ∨ w.heap.size ≤ k_) ∧ k_ ≠ g) (Kd.V_keptB (HO_1000.out) hkp (fun k_ hk_ hs_ => (hk_.2) hs_)) (fun k_ hk_ => ⟨hk_.1.1, hk_.1.2⟩)); have n1_ := Aside0.mk (hbx); have n2_ := Aside0.mk (Kd.V_mono (ok' := fun k_ => (P0_0_ k_ ∨ w.heap.size ≤ k_) ∧ k_ ≠ g) ho0 (fun k_ hk_ => ⟨Or.elim hk_ (fun hs_ => hs_.1) (fun hn_ => (.inr (Nat.le_trans (by first | exact HK.out.1 | exact (show Kept w _ (fun k_ => k_ = g) from by repeat (first | (with_reducible first | exact HK.out | apply Kept.alloc | apply Kept.drewN | apply Kept.drew | refine Kept.setCell ?_ (.inl (show g = g from rfl)) _) | exact HK.out)).1) hn_))), Or.elim hk_ (fun hs_ => hs_.2) (fun hn_ => (Kd.freshB (g := g) (o := .cells #[.slice Ao35 t227.length co35, .int .i64 t230] 119 (0, 0)) (by (with_reducible repeat (first | refine blk_drewN ?_ _ | refine blk_drew ?_ | refine blk_alloc ?_ _)); exact BK0.out) k_ hn_))⟩)); have n3_ := Aside0.mk (Kd.V_mono (ok' := fun k_ => (P0_0_ k_ ∨ w.heap.size ≤ k_) ∧ k_ ≠ g) ho1 (fun k_ hk_ => ⟨Or.elim hk_ (fun hs_ => hs_.1) (fun hn_ => (.inr (Nat.le_trans (by first | exact HK.out.1 | exact (show Kept w _ (fun k_ => k_ = g) from by repeat (first | (with_reducible first | exact HK.out | apply Kept.alloc | apply Kept.drewN | apply Kept.drew | refine Kept.setCell ?_ (.inl (show g = g from rfl)) _) | exact HK.out)).1) hn_))), Or.elim hk_ (fun hs_ => hs_.2) (fun hn_ => (Kd.freshB (g := g) (o := .cells #[.slice Ao35 t227.length co35, .int .i64 t230] 119 (0, 0)) (by (with_reducible repeat (first | refine blk_drewN ?_ _ | refine blk_drew ?_ | refine blk_alloc ?_ _)); exact BK0.out) k_ hn_))⟩)); have n4_ := Aside0.mk (Kept.then_ (S := (fun k_ => k_ = g)) (by repeat (first | (with_reducible first | exact HK.out | apply Kept.alloc | apply Kept.drewN | apply Kept.drew | refine Kept.setCell ?_ (.inl (show g = g from rfl)) _) | exact HK.out)) hkp (fun k_ hs_ => (fun e_ => .inl e_) hs_)); have n5_ := Aside0.mk (hb); clear HO_1000; clear BK0; clear HK; clear HB; have HO_1000 := n0_; have BK0 := n1_; have HO251 := n2_; have HO255 := n3_; have HK := n4_; have HB := n5_; clear n0_ n1_ n2_ n3_ n4_ n5_; (try clear hbx); (try clear hbn); (try clear hgn); (try clear hb); (try clear hkp); (try clear ho0); (try clear ho1)))
          go_ret
          exact ⟨_, (v254), by first | rfl | (simp [errW_none, errW_some, ptrW_true, ptrW_false] <;> rfl) | (simp [*, errW_none, errW_some, ptrW_true, ptrW_false] <;> rfl), by first | exact Kd.R_nil _ _ _ _ _ | exact Kd.N_nil _ _ _ _ _ | exact Kd.V_nil _ _ _ _ _ | exact Kd.Q_nil _ _ _ _ _ | exact Kd.S_nil _ _ _ _ _, by (with_reducible repeat (first | apply Kd.V_alloc | apply Kd.V_drewN | apply Kd.V_drew)); exact Kd.V_mono HO255.out (fun _ hk => ⟨hk.1, (by simp [Value.ownBlock])⟩), (by (with_reducible repeat (first | refine blk_drewN ?_ _ | refine blk_drew ?_ | refine blk_alloc ?_ _)); exact BK0.out), by repeat (first | (with_reducible first | exact HB.out | apply below_alloc | apply pw_below_drewN | apply below_drew1 | refine below_set ?_ GE0.out) | exact HB.out), by repeat (first | (with_reducible first | exact HK.out | apply Kept.alloc | apply Kept.drewN | apply Kept.drew | refine Kept.setCell ?_ (.inl (show g = g from rfl)) _) | exact HK.out)⟩

-- NOT PRINTED: function 56 (codec_Reader_Key)

/-! ### codec_Reader_Bool: function 57 -/
def codec_Reader_Bool.f (l0_0 : List Int) (a0_1 : Int) : Option (Bool × List Int × Int) := (codec_Reader_Byte.f l0_0 a0_1).bind fun bt263 => (if bt263.1 > 1 then ((codec_Reader_Fail.f bt263.2.1 bt263.2.2 6).bind fun bt268 => (some ((bt263.1 == 1), bt268.1, bt268.2))) else (some ((bt263.1 == 1), bt263.2.1, bt263.2.2)))
set_option maxHeartbeats 8000000 in
set_option maxRecDepth 100000 in
theorem codec_Reader_Bool.calls (g : Nat) (P0_0_ : Nat → Prop) (A0_0 : Option Addr) (c0_0 : Nat) (l0_0 : List Int) (a0_1 : Int) (r1 : Bool) (r2 : List Int) (r3 : Int) (w0 w : World) (hb : w.heap[g]? = some (.cells #[.slice A0_0 l0_0.length c0_0, .int .i64 a0_1] 119 (0, 0))) (hg : w0.heap.size ≤ g) (hB : Below w0.heap.size w0 w) (hs0_0 : Kd.V (Kd.int .u8) 5 w w0.heap.size (fun k_ => P0_0_ k_ ∧ k_ ≠ g) (.slice A0_0 l0_0.length c0_0) l0_0) (h : codec_Reader_Bool.f l0_0 a0_1 = some (r1, r2, r3)) :
    Calls Try.prog 57 #[.pointer (some ⟨g, 0, none⟩)] w fun e w' => ∃ v1_ : Value, Aside0 (e = .returned (.bool r1) ∧ Kd.V (Kd.int .u8) 5 w' w0.heap.size (fun k_ => (P0_0_ k_ ∨ w.heap.size ≤ k_)) v1_ r2 ∧ w'.heap[g]? = some (.cells #[v1_, .int .i64 r3] 119 (0, 0)) ∧ Below w0.heap.size w0 w' ∧ Kept w w' (fun k_ => k_ = g)) := by
  have HO0_0 := Aside0.mk (show Kd.V (Kd.int .u8) 5 w w0.heap.size (fun k_ => (P0_0_ k_ ∨ w.heap.size ≤ k_) ∧ k_ ≠ g) (.slice A0_0 l0_0.length c0_0) l0_0 from Kd.V_mono hs0_0 (fun k_ hk => ⟨.inl hk.1, hk.2⟩))
  have HK := Aside0.mk (Kept.refl w (fun k_ => k_ = g))
  have BK0 := Aside0.mk hb
  have GE0 := Aside0.mk hg
  clear hb hg
  have HW0 := Aside0.mk hB.size
  have HB := Aside0.mk hB
  clear hB
  have H : ((codec_Reader_Byte.f l0_0 a0_1).bind fun bt263 => (if bt263.1 > 1 then ((codec_Reader_Fail.f bt263.2.1 bt263.2.2 6).bind fun bt268 => (some ((bt263.1 == 1), bt268.1, bt268.2))) else (some ((bt263.1 == 1), bt263.2.1, bt263.2.2)))) = some (r1, r2, r3) := h
  clear h
  replace H := Option.bind_eq_some_iff.mp H
  obtain ⟨⟨t263, t264, t267⟩, A20, H⟩ := H
  replace H : (if t263 > 1 then ((codec_Reader_Fail.f t264 t267 6).bind fun bt268 => (some ((t263 == 1), bt268.1, bt268.2))) else (some ((t263 == 1), t264, t267))) = some (r1, r2, r3) := H
  have A2 := Aside0.mk A20
  clear A20
  by_cases c3 : t263 > 1
  · rw [if_pos c3] at H
    have c3b0 : decide (1 < t263) = true := decide_eq_true c3
    clear c3
    replace H := Option.bind_eq_some_iff.mp H
    obtain ⟨⟨t268, t271⟩, A40, H⟩ := H
    replace H : (some ((t263 == 1), t268, t271)) = some (r1, r2, r3) := H
    have A4 := Aside0.mk A40
    clear A40
    simp only [Option.some.injEq, Prod.mk.injEq] at H
    obtain ⟨rfl, rfl, rfl⟩ := H
    go_enter Try.func57, Try.ntmps57
    go_wp2_with (first | ((with_reducible refine gate_callee (f := 53) rfl ?_); refine goesL_ (some 5) rfl rfl Try.func53 (by kernel_rfl) rfl #[.pointer (some ⟨g, 0, none⟩)] rfl (by (try simp only [List.map_toArray, List.map_cons, List.map_nil]); first | done | rfl | (simp only [List.length_drop, List.length_take]; rfl)) ?_; (with_reducible refine (codec_Reader_Byte.calls g (fun k_ => ((P0_0_ k_ ∨ w.heap.size ≤ k_) ∧ k_ ≠ g)) A0_0 c0_0 l0_0 a0_1 t263 t264 t267 w0 _ ?side2 ?side3 ?side1 ?side4 A2.out).mono ?_); (case side1 => repeat (first | (with_reducible first | exact HB.out | apply below_alloc | apply pw_below_drewN | apply below_drew1 | refine below_set ?_ GE0.out) | exact HB.out)); (case side2 => (with_reducible repeat (first | refine blk_drewN ?_ _ | refine blk_drew ?_ | refine blk_alloc ?_ _)); exact BK0.out); (case side3 => exact GE0.out); (case side4 => exact Kd.V_mono (HO0_0.out) (fun k_ hk_ => ⟨hk_, hk_.2⟩)); rintro e w5 ⟨v265, rfl, ho0, hbx, hb, hkp⟩; refine ⟨_, rfl, ?_⟩; have n0_ := Aside0.mk (hbx); have n1_ := Aside0.mk (Kd.V_mono (ok' := fun k_ => (P0_0_ k_ ∨ w.heap.size ≤ k_) ∧ k_ ≠ g) (Kd.V_keptB (HO0_0.out) hkp (fun k_ hk_ hs_ => (hk_.2) hs_)) (fun k_ hk_ => ⟨hk_.1.1, hk_.1.2⟩)); have n2_ := Aside0.mk (Kd.V_mono (ok' := fun k_ => (P0_0_ k_ ∨ w.heap.size ≤ k_) ∧ k_ ≠ g) ho0 (fun k_ hk_ => ⟨Or.elim hk_ (fun hs_ => hs_.1) (fun hn_ => (.inr (Nat.le_trans (by first | exact HK.out.1 | exact (show Kept w _ (fun k_ => k_ = g) from by repeat (first | (with_reducible first | exact HK.out | apply Kept.alloc | apply Kept.drewN | apply Kept.drew | refine Kept.setCell ?_ (.inl (show g = g from rfl)) _) | exact HK.out)).1) hn_))), Or.elim hk_ (fun hs_ => hs_.2) (fun hn_ => (Kd.freshB (g := g) (o := .cells #[.slice A0_0 l0_0.length c0_0, .int .i64 a0_1] 119 (0, 0)) (by (with_reducible repeat (first | refine blk_drewN ?_ _ | refine blk_drew ?_ | refine blk_alloc ?_ _)); exact BK0.out) k_ hn_))⟩)); have n3_ := Aside0.mk (Kept.then_ (S := (fun k_ => k_ = g)) (by repeat (first | (with_reducible first | exact HK.out | apply Kept.alloc | apply Kept.drewN | apply Kept.drew | refine Kept.setCell ?_ (.inl (show g = g from rfl)) _) | exact HK.out)) hkp (fun k_ hs_ => (fun e_ => .inl e_) hs_)); have n4_ := Aside0.mk (hb); clear BK0; clear HO0_0; clear HK; clear HB; have BK0 := n0_; have HO0_0 := n1_; have HO266 := n2_; have HK := n3_; have HB := n4_; clear n0_ n1_ n2_ n3_ n4_; (try clear hbx); (try clear hbn); (try clear hgn); (try clear hb); (try clear hkp); (try clear ho0); obtain ⟨Ao6, co6, eo6⟩ := Kd.V_slice HO266.out; subst eo6) | ((with_reducible refine gate_callee (f := 60) rfl ?_); refine goesL_ (some 9) rfl rfl Try.func60 (by kernel_rfl) rfl #[.pointer (some ⟨g, 0, none⟩), .int .i64 6] rfl (by (try simp only [List.map_toArray, List.map_cons, List.map_nil]); first | done | rfl | (simp only [List.length_drop, List.length_take]; rfl)) ?_; (with_reducible refine (codec_Reader_Fail.calls g (fun k_ => ((P0_0_ k_ ∨ w.heap.size ≤ k_) ∧ k_ ≠ g)) Ao6 co6 t264 t267 6 t268 t271 w0 _ ?side2 ?side3 ?side1 ?side4 A4.out).mono ?_); (case side1 => repeat (first | (with_reducible first | exact HB.out | apply below_alloc | apply pw_below_drewN | apply below_drew1 | refine below_set ?_ GE0.out) | exact HB.out)); (case side2 => (with_reducible repeat (first | refine blk_drewN ?_ _ | refine blk_drew ?_ | refine blk_alloc ?_ _)); exact BK0.out); (case side3 => exact GE0.out); (case side4 => exact Kd.V_mono (HO266.out) (fun k_ hk_ => ⟨hk_, hk_.2⟩)); rintro e w7 ⟨v269, rfl, ho0, hbx, hb, hkp⟩; refine ⟨_, rfl, ?_⟩; have n0_ := Aside0.mk (hbx); have n1_ := Aside0.mk (Kd.V_mono (ok' := fun k_ => (P0_0_ k_ ∨ w.heap.size ≤ k_) ∧ k_ ≠ g) (Kd.V_keptB (HO0_0.out) hkp (fun k_ hk_ hs_ => (hk_.2) hs_)) (fun k_ hk_ => ⟨hk_.1.1, hk_.1.2⟩)); have n2_ := Aside0.mk (Kd.V_mono (ok' := fun k_ => (P0_0_ k_ ∨ w.heap.size ≤ k_) ∧ k_ ≠ g) (Kd.V_keptB (HO266.out) hkp (fun k_ hk_ hs_ => (hk_.2) hs_)) (fun k_ hk_ => ⟨hk_.1.1, hk_.1.2⟩)); have n3_ := Aside0.mk (Kd.V_mono (ok' := fun k_ => (P0_0_ k_ ∨ w.heap.size ≤ k_) ∧ k_ ≠ g) ho0 (fun k_ hk_ => ⟨Or.elim hk_ (fun hs_ => hs_.1) (fun hn_ => (.inr (Nat.le_trans (by first | exact HK.out.1 | exact (show Kept w _ (fun k_ => k_ = g) from by repeat (first | (with_reducible first | exact HK.out | apply Kept.alloc | apply Kept.drewN | apply Kept.drew | refine Kept.setCell ?_ (.inl (show g = g from rfl)) _) | exact HK.out)).1) hn_))), Or.elim hk_ (fun hs_ => hs_.2) (fun hn_ => (Kd.freshB (g := g) (o := .cells #[.slice Ao6 t264.length co6, .int .i64 t267] 119 (0, 0)) (by (with_reducible repeat (first | refine blk_drewN ?_ _ | refine blk_drew ?_ | refine blk_alloc ?_ _)); exact BK0.out) k_ hn_))⟩)); have n4_ := Aside0.mk (Kept.then_ (S := (fun k_ => k_ = g)) (by repeat (first | (with_reducible first | exact HK.out | apply Kept.alloc | apply Kept.drewN | apply Kept.drew | refine Kept.setCell ?_ (.inl (show g = g from rfl)) _) | exact HK.out)) hkp (fun k_ hs_ => (fun e_ => .inl e_) hs_)); have n5_ := Aside0.mk (hb); clear BK0; clear HO0_0; clear HO266; clear HK; clear HB; have BK0 := n0_; have HO0_0 := n1_; have HO266 := n2_; have HO270 := n3_; have HK := n4_; have HB := n5_; clear n0_ n1_ n2_ n3_ n4_ n5_; (try clear hbx); (try clear hbn); (try clear hgn); (try clear hb); (try clear hkp); (try clear ho0)))
    go_ret
    exact ⟨(v269), by first | rfl | (simp [errW_none, errW_some, ptrW_true, ptrW_false] <;> rfl) | (simp [*, errW_none, errW_some, ptrW_true, ptrW_false] <;> rfl), by (with_reducible repeat (first | apply Kd.V_alloc | apply Kd.V_drewN | apply Kd.V_drew)); exact Kd.V_mono HO270.out (fun _ hk => hk.1), (by (with_reducible repeat (first | refine blk_drewN ?_ _ | refine blk_drew ?_ | refine blk_alloc ?_ _)); exact BK0.out), by repeat (first | (with_reducible first | exact HB.out | apply below_alloc | apply pw_below_drewN | apply below_drew1 | refine below_set ?_ GE0.out) | exact HB.out), by repeat (first | (with_reducible first | exact HK.out | apply Kept.alloc | apply Kept.drewN | apply Kept.drew | refine Kept.setCell ?_ (.inl (show g = g from rfl)) _) | exact HK.out)⟩
  · rw [if_neg c3] at H
    have c3b0 : decide (1 < t263) = false := decide_eq_false c3
    clear c3
    simp only [Option.some.injEq, Prod.mk.injEq] at H
    obtain ⟨rfl, rfl, rfl⟩ := H
    go_enter Try.func57, Try.ntmps57
    go_wp2_with (first | ((with_reducible refine gate_callee (f := 53) rfl ?_); refine goesL_ (some 5) rfl rfl Try.func53 (by kernel_rfl) rfl #[.pointer (some ⟨g, 0, none⟩)] rfl (by (try simp only [List.map_toArray, List.map_cons, List.map_nil]); first | done | rfl | (simp only [List.length_drop, List.length_take]; rfl)) ?_; (with_reducible refine (codec_Reader_Byte.calls g (fun k_ => ((P0_0_ k_ ∨ w.heap.size ≤ k_) ∧ k_ ≠ g)) A0_0 c0_0 l0_0 a0_1 t263 t264 t267 w0 _ ?side2 ?side3 ?side1 ?side4 A2.out).mono ?_); (case side1 => repeat (first | (with_reducible first | exact HB.out | apply below_alloc | apply pw_below_drewN | apply below_drew1 | refine below_set ?_ GE0.out) | exact HB.out)); (case side2 => (with_reducible repeat (first | refine blk_drewN ?_ _ | refine blk_drew ?_ | refine blk_alloc ?_ _)); exact BK0.out); (case side3 => exact GE0.out); (case side4 => exact Kd.V_mono (HO0_0.out) (fun k_ hk_ => ⟨hk_, hk_.2⟩)); rintro e w8 ⟨v265, rfl, ho0, hbx, hb, hkp⟩; refine ⟨_, rfl, ?_⟩; have n0_ := Aside0.mk (hbx); have n1_ := Aside0.mk (Kd.V_mono (ok' := fun k_ => (P0_0_ k_ ∨ w.heap.size ≤ k_) ∧ k_ ≠ g) (Kd.V_keptB (HO0_0.out) hkp (fun k_ hk_ hs_ => (hk_.2) hs_)) (fun k_ hk_ => ⟨hk_.1.1, hk_.1.2⟩)); have n2_ := Aside0.mk (Kd.V_mono (ok' := fun k_ => (P0_0_ k_ ∨ w.heap.size ≤ k_) ∧ k_ ≠ g) ho0 (fun k_ hk_ => ⟨Or.elim hk_ (fun hs_ => hs_.1) (fun hn_ => (.inr (Nat.le_trans (by first | exact HK.out.1 | exact (show Kept w _ (fun k_ => k_ = g) from by repeat (first | (with_reducible first | exact HK.out | apply Kept.alloc | apply Kept.drewN | apply Kept.drew | refine Kept.setCell ?_ (.inl (show g = g from rfl)) _) | exact HK.out)).1) hn_))), Or.elim hk_ (fun hs_ => hs_.2) (fun hn_ => (Kd.freshB (g := g) (o := .cells #[.slice A0_0 l0_0.length c0_0, .int .i64 a0_1] 119 (0, 0)) (by (with_reducible repeat (first | refine blk_drewN ?_ _ | refine blk_drew ?_ | refine blk_alloc ?_ _)); exact BK0.out) k_ hn_))⟩)); have n3_ := Aside0.mk (Kept.then_ (S := (fun k_ => k_ = g)) (by repeat (first | (with_reducible first | exact HK.out | apply Kept.alloc | apply Kept.drewN | apply Kept.drew | refine Kept.setCell ?_ (.inl (show g = g from rfl)) _) | exact HK.out)) hkp (fun k_ hs_ => (fun e_ => .inl e_) hs_)); have n4_ := Aside0.mk (hb); clear BK0; clear HO0_0; clear HK; clear HB; have BK0 := n0_; have HO0_0 := n1_; have HO266 := n2_; have HK := n3_; have HB := n4_; clear n0_ n1_ n2_ n3_ n4_; (try clear hbx); (try clear hbn); (try clear hgn); (try clear hb); (try clear hkp); (try clear ho0)))
    go_ret
    exact ⟨(v265), by first | rfl | (simp [errW_none, errW_some, ptrW_true, ptrW_false] <;> rfl) | (simp [*, errW_none, errW_some, ptrW_true, ptrW_false] <;> rfl), by (with_reducible repeat (first | apply Kd.V_alloc | apply Kd.V_drewN | apply Kd.V_drew)); exact Kd.V_mono HO266.out (fun _ hk => hk.1), (by (with_reducible repeat (first | refine blk_drewN ?_ _ | refine blk_drew ?_ | refine blk_alloc ?_ _)); exact BK0.out), by repeat (first | (with_reducible first | exact HB.out | apply below_alloc | apply pw_below_drewN | apply below_drew1 | refine below_set ?_ GE0.out) | exact HB.out), by repeat (first | (with_reducible first | exact HK.out | apply Kept.alloc | apply Kept.drewN | apply Kept.drew | refine Kept.setCell ?_ (.inl (show g = g from rfl)) _) | exact HK.out)⟩

end Go.Proofs.Ythcpfkkddfgamaa.PF06C
