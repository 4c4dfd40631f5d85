/- By a program of this session (wip/tool/pp.py): plain Lean functions of the Go functions that this family of laws uses, the walks that the Go code comes to their answers, and the row of the law. No condition beside those that the row itself gives. -/
import Derived.Test.YtaiiegbhbadciaaPF22Rx0
import Derived.Test.YtaiiegbhbadciaaPF22Rx2
import Derived.Test.YtaiiegbhbadciaaPF22Rx3
namespace Go.Proofs.Ytaiiegbhbadciaa.PF22R
open Go.RowKit Go.Proofs.YtaiiegbhbadciaaW.Hand Go.Proofs.YtaiiegbhbadciaaW.PrintWords Go.Proofs.YtaiiegbhbadciaaW.PrintLast Go.Proofs.YtaiiegbhbadciaaW.PrintMore
attribute [local go_sem] max2_int min2_int max_two min_two max_three min_three max_four min_four   -- for this text's walks alone
set_option linter.unusedVariables false
set_option linter.unusedSimpArgs false

/-! ### record_Read: function 32 -/
def record_Read.f (k : Nat) (l0 : List Int) : Option (Int × Int × List Int × Int) := if (l0.length : Int) = 256 then (if 255 < (l0.length : Int) then (if (rd l0 255) = 0 then (some (0, 0, ([] : List Int), 3)) else (if (rd l0 255) > 1 then (some (0, 0, ([] : List Int), 6)) else (if 251 ≤ (l0.length : Int) then ((record_sums.f k (l0.take 251)).bind fun t163 => (if 251 ≤ 255 then (if 255 ≤ (l0.length : Int) then ((slices_Equal_byte_byte.f k t163 ((l0.take 255).drop 251)).bind fun t167 => (if t167 = true then (if 8 ≤ (l0.length : Int) then ((word_Get.f k (l0.take 8)).bind fun bt169 => (if 8 ≤ 16 then (if 16 ≤ (l0.length : Int) then ((word_Get.f k ((l0.take 16).drop 8)).bind fun bt172 => (if 16 < (l0.length : Int) then (if bt169.1 ≥ 72057594037927936 then (some (0, 0, ([] : List Int), 6)) else (if bt172.1 ≥ 72057594037927936 then (some (0, 0, ([] : List Int), 6)) else (if (wrap64 (rd l0 16)) > 234 then (some (0, 0, ([] : List Int), 6)) else (if 0 ≤ (wrap64 (17 + (wrap64 (rd l0 16)))) then (if (wrap64 (17 + (wrap64 (rd l0 16)))) ≤ 251 then ((slices_ContainsFunc_byte_byte.f ((l0.take 251).drop ((wrap64 (17 + (wrap64 (rd l0 16)))) : Int).toNat)).bind fun t176 => (if t176 = true then (some (0, 0, ([] : List Int), 6)) else (if 17 ≤ (wrap64 (17 + (wrap64 (rd l0 16)))) then (if (wrap64 (17 + (wrap64 (rd l0 16)))) ≤ (l0.length : Int) then ((slices_Clone_byte_byte.f ((l0.take ((wrap64 (17 + (wrap64 (rd l0 16)))) : Int).toNat).drop 17)).bind fun t178 => (some (wrap64 (bt169.1), wrap64 (bt172.1), t178, 0))) else (none)) else (none)))) else (none)) else (none))))) else (none))) else (none)) else (none))) else (none)) else (some (0, 0, ([] : List Int), 21)))) else (none)) else (none))) else (none)))) else (none)) else (some (0, 0, ([] : List Int), 22))
theorem record_Read.mono : ∀ a0 k, LeO (record_Read.f k a0) (record_Read.f (k + 1) a0) := by
  intro a0 k
  unfold record_Read.f
  repeat' first
      | (with_reducible exact record_sums.mono _ _)
      | (with_reducible exact slices_Equal_byte_byte.mono _ _ _)
      | (with_reducible exact word_Get.mono _ _)
      | (with_reducible exact LeO.refl _)
      | (with_reducible exact LeO.none _)
      | (with_reducible refine LeO.ite ?_ ?_)
      | (with_reducible refine LeO.bind ?_ (fun _ => ?_))
      | exact record_sums.mono _ _
      | exact slices_Equal_byte_byte.mono _ _ _
      | exact word_Get.mono _ _
      | exact LeO.none _
      | refine LeO.ite ?_ ?_
      | refine LeO.bind ?_ (fun _ => ?_)
def record_Read.T7 : Bool × List (List Nat × List Nat) := (true, [([], []), ([0], [0]), ([1], [1]), ([], []), ([3], [3]), ([2, 4, 2], [2, 4]), ([5], [5]), ([6, 5], [6])])
def record_Read.B7 : List Nat := [0, 1, 3, 0, 8, 31, 63, 127]
theorem record_Read.tab7 : rtab .any (opsOf Try.f32 7) = record_Read.T7 := by kernel_rfl
theorem record_Read.bits7 : waitsOk record_Read.T7.2 record_Read.B7 = true := by kernel_rfl
theorem q_1 {p : Prop} (h : p := by repeat (first | (with_reducible first | exact HB.out | apply below_alloc | apply pw_below_drewN | apply below_drew1 | refine below_set ?_ GE159.out) | exact HB.out)) : p := h
theorem q_2 {p : Prop} (h : p := by (with_reducible repeat (first | refine blk_drewN ?_ _ | refine blk_drew ?_ | refine blk_alloc ?_ _)); refine blk_put (cs := #[.int .i64 0, .int .i64 0, .slice none 0 0]) ?_ 2 _ rfl; (with_reducible repeat (first | refine blk_drewN ?_ _ | refine blk_drew ?_ | refine blk_alloc ?_ _)); refine blk_put (cs := #[.int .i64 0, .int .i64 0, .slice none 0 0]) ?_ 1 _ rfl; (with_reducible repeat (first | refine blk_drewN ?_ _ | refine blk_drew ?_ | refine blk_alloc ?_ _)); refine blk_put (cs := #[.int .i64 0, .int .i64 0, .slice none 0 0]) ?_ 0 _ rfl; (with_reducible repeat (first | refine blk_drewN ?_ _ | refine blk_drew ?_ | refine blk_alloc ?_ _)); exact BK159.out) : p := h
theorem q_3 {p : Prop} (h : p := by first | (with_reducible assumption) | assumption) : p := h
theorem q_4 {p : Prop} (h : p := by repeat (first | (with_reducible first | exact HB.out | apply below_alloc | apply pw_below_drewN | apply below_drew1) | exact HB.out)) : p := h
theorem q_5 {p : Prop} (h : p := by (with_reducible repeat (first | refine blk_drewN ?_ _ | refine blk_drew ?_ | refine blk_alloc ?_ _)); exact BK159.out) : p := h
theorem q_6 {p : Prop} (h : p := by (try simp only [List.map_toArray, List.map_cons, List.map_nil]); first | done | (rw [show ((l0.take 255).drop 251).length = (255 - 251) from (by rw [List.length_drop, List.length_take]; have h_ : (255 : Int) ≤ (l0.length : Int) := of_decide_eq_true q_3; omega)] <;> rfl) | rfl | (simp only [List.length_drop, List.length_take]; rfl)) : p := h
theorem q_7 {p : Prop} (h : p := by (try simp only [List.map_toArray, List.map_cons, List.map_nil]); first | done | (rw [show (l0.take 251).length = 251 from (by rw [List.length_take]; have h_ : (251 : Int) ≤ (l0.length : Int) := of_decide_eq_true q_3; omega)] <;> rfl) | rfl | (simp only [List.length_drop, List.length_take]; rfl)) : p := h
theorem q_8 {p : Prop} (h : p := by (with_reducible repeat (first | apply Kd.R_alloc | apply Kd.R_drewN | apply Kd.R_drew)); exact HO165.out) : p := h
theorem q_9 {p : Prop} (h : p := by (try simp only [List.map_toArray, List.map_cons, List.map_nil]); first | done | (rw [show ((l0.take 16).drop 8).length = (16 - 8) from (by rw [List.length_drop, List.length_take]; have h_ : (16 : Int) ≤ (l0.length : Int) := of_decide_eq_true q_3; omega)] <;> rfl) | rfl | (simp only [List.length_drop, List.length_take]; rfl)) : p := h
theorem q_10 {p : Prop} (h : p := by (try simp only [List.map_toArray, List.map_cons, List.map_nil]); first | done | (rw [show (l0.take 8).length = 8 from (by rw [List.length_take]; have h_ : (8 : Int) ≤ (l0.length : Int) := of_decide_eq_true q_3; omega)] <;> rfl) | rfl | (simp only [List.length_drop, List.length_take]; rfl)) : p := h
theorem q_11 {p : Prop} (h : p := by kernel_rfl) : p := h
theorem q_12 {p : Prop} (h : p := by first | omega | exact of_decide_eq_true q_3) : p := h
theorem q_13 {p : Prop} (h : p := by omega) : p := h
set_option maxHeartbeats 8000000 in
set_option maxRecDepth 100000 in
theorem record_Read.calls (k : Nat) (A0 : Option Addr) (c0 : Nat) (l0 : List Int) (r1 : Int) (r2 : Int) (r3 : List Int) (r4 : Int) (w : World) (hr0 : Kd.C (Kd.int .u8) w A0 l0.length l0) (hc0 : l0.length ≤ c0) (h : record_Read.f k l0 = some (r1, r2, r3, r4)) :
    Calls Try.prog 32 #[.slice A0 l0.length c0] w fun e w' => ∃ v2_ : Value, e = .returned (.tuple #[.agg #[.int .i64 r1, .int .i64 r2, v2_], .int .i64 r4]) ∧ Kd.R (Kd.int .u8) 5 w' w.heap.size (fun _ => True) v2_ r3 ∧ Below w.heap.size w w' := by
  have hu51 := Try.underlying51
  have HR0 := Aside0.mk hr0
  have HC0 := Aside0.mk hc0
  clear hr0 hc0
  have HB := Aside0.mk (Below.refl w.heap.size w)
  have H : (if (l0.length : Int) = 256 then (if 255 < (l0.length : Int) then (if (rd l0 255) = 0 then (some (0, 0, ([] : List Int), 3)) else (if (rd l0 255) > 1 then (some (0, 0, ([] : List Int), 6)) else (if 251 ≤ (l0.length : Int) then ((record_sums.f k (l0.take 251)).bind fun t163 => (if 251 ≤ 255 then (if 255 ≤ (l0.length : Int) then ((slices_Equal_byte_byte.f k t163 ((l0.take 255).drop 251)).bind fun t167 => (if t167 = true then (if 8 ≤ (l0.length : Int) then ((word_Get.f k (l0.take 8)).bind fun bt169 => (if 8 ≤ 16 then (if 16 ≤ (l0.length : Int) then ((word_Get.f k ((l0.take 16).drop 8)).bind fun bt172 => (if 16 < (l0.length : Int) then (if bt169.1 ≥ 72057594037927936 then (some (0, 0, ([] : List Int), 6)) else (if bt172.1 ≥ 72057594037927936 then (some (0, 0, ([] : List Int), 6)) else (if (wrap64 (rd l0 16)) > 234 then (some (0, 0, ([] : List Int), 6)) else (if 0 ≤ (wrap64 (17 + (wrap64 (rd l0 16)))) then (if (wrap64 (17 + (wrap64 (rd l0 16)))) ≤ 251 then ((slices_ContainsFunc_byte_byte.f ((l0.take 251).drop ((wrap64 (17 + (wrap64 (rd l0 16)))) : Int).toNat)).bind fun t176 => (if t176 = true then (some (0, 0, ([] : List Int), 6)) else (if 17 ≤ (wrap64 (17 + (wrap64 (rd l0 16)))) then (if (wrap64 (17 + (wrap64 (rd l0 16)))) ≤ (l0.length : Int) then ((slices_Clone_byte_byte.f ((l0.take ((wrap64 (17 + (wrap64 (rd l0 16)))) : Int).toNat).drop 17)).bind fun t178 => (some (wrap64 (bt169.1), wrap64 (bt172.1), t178, 0))) else (none)) else (none)))) else (none)) else (none))))) else (none))) else (none)) else (none))) else (none)) else (some (0, 0, ([] : List Int), 21)))) else (none)) else (none))) else (none)))) else (none)) else (some (0, 0, ([] : List Int), 22))) = some (r1, r2, r3, r4) := h
  clear h
  by_cases c2 : (l0.length : Int) = 256
  · rw [if_pos c2] at H
    have c2b0 : ((l0.length : Int) == 256) = true := beq_iff_eq.mpr c2
    have c2b1 : ((l0.length : Int) != 256) = false := bne_eq_false_iff_eq.mpr c2
    clear c2
    by_cases c3 : 255 < (l0.length : Int)
    · rw [if_pos c3] at H
      have c3b0 : decide (255 < (l0.length : Int)) = true := decide_eq_true c3
      have c3b1 : decide (255 < l0.length) = true := decide_eq_true q_13
      clear c3
      by_cases c4 : (rd l0 255) = 0
      · rw [if_pos c4] at H
        have c4b0 : ((rd l0 255) == 0) = true := beq_iff_eq.mpr c4
        have c4b1 : ((rd l0 255) != 0) = false := bne_eq_false_iff_eq.mpr c4
        clear c4
        simp only [Option.some.injEq, Prod.mk.injEq] at H
        obtain ⟨rfl, rfl, rfl, rfl⟩ := H
        go_enter Try.func32, Try.ntmps32
        go_wp2_with (first | ((with_reducible refine gate_dst (N := 2) rfl ?_); refine box_event ?hg (N := 2) ?hd (cs := #[.int .i64 0, .int .i64 0, .slice none 0 0]) (t := 51) ?hr ?_; (case hd => rfl); (case hg => rfl); (case hr => first | (go_simp; done) | (go_simp; rfl)); intro gb159 hg w5 hbox hb; have n0_ := Aside0.mk (below_step q_4 hb); have n1_ := Aside0.mk (hbox); have n2_ := Aside0.mk ((by rw [hg]; exact (below_size q_4) : w.heap.size ≤ gb159)); have n3_ := Aside0.mk ((by rw [hg]; exact (below_size q_4) : w.heap.size ≤ gb159)); clear HB; have HB := n0_; have BK159 := n1_; have GW159 := n2_; have GE159 := n3_; clear n0_ n1_ n2_ n3_; clear hb hbox hg; have p160 : 0 ≤ (255 : Int) := q_13; have q160 : 255 < (l0.length : Int) := of_decide_eq_true q_3; obtain ⟨ad160, e160, hx160_0⟩ := Kd.at_int HR0.out 255 p160 q160; cases e160; (try simp only [show (255 : Int).toNat = 255 from rfl, Nat.reduceMul, Nat.reduceEqDiff, Go.Addr.add, ↓reduceIte] at hx160_0); have qi160 : (255 < l0.length) = True := eq_true q_13; (try rw [show ((255 : Int)).toNat = 255 from rfl] at hx160_0); replace hx160_0 := (HB.out.cell (World.block_lt_of_cell? w _ hx160_0)).trans hx160_0; replace p160 := eq_true p160; replace q160 := eq_true q160; have hcz6_0 : w5.cell? ⟨gb159, 0, none⟩ = some (.int .i64 0) := (blk_cell BK159.out 0).trans rfl; have hcz6_1 : w5.cell? ⟨gb159, 1, none⟩ = some (.int .i64 0) := (blk_cell BK159.out 1).trans rfl; have hcz6_2 : w5.cell? ⟨gb159, 2, none⟩ = some (.slice none 0 0) := (blk_cell BK159.out 2).trans rfl; have hfz6_0 := blk_frozen BK159.out 0; have hfz6_1 := blk_frozen BK159.out 1; have hfz6_2 := blk_frozen BK159.out 2))
        refine bodyPost_ret (results_ct rfl _ _ gb159 51 #[.int .i64 0, .int .i64 0, .slice none 0 0] (0, 0) _ rfl q_2 Try.underlying51 rfl q_11) rfl ?_
        exact ⟨_, by first | rfl | (simp [errW_none, errW_some] <;> rfl) | (simp [*, errW_none, errW_some] <;> rfl), by first | exact Kd.R_nil _ _ _ _ _ | exact Kd.N_nil _ _ _ _ _ | exact Kd.V_nil _ _ _ _ _ | exact Kd.Q_nil _ _ _ _ _ | exact Kd.S_nil _ _ _ _ _, by repeat (first | (with_reducible first | exact HB.out | apply below_alloc | apply pw_below_drewN | apply below_drew1 | refine below_set ?_ GE159.out) | exact HB.out)⟩
      · rw [if_neg c4] at H
        have c4b0 : ((rd l0 255) == 0) = false := beq_eq_false_iff_ne.mpr c4
        have c4b1 : ((rd l0 255) != 0) = true := bne_iff_ne.mpr c4
        by_cases c7 : (rd l0 255) > 1
        · rw [if_pos c7] at H
          have c7b0 : decide (1 < (rd l0 255)) = true := decide_eq_true c7
          clear c7
          simp only [Option.some.injEq, Prod.mk.injEq] at H
          obtain ⟨rfl, rfl, rfl, rfl⟩ := H
          go_enter Try.func32, Try.ntmps32
          go_wp2_with (first | ((with_reducible refine gate_dst (N := 2) rfl ?_); refine box_event ?hg (N := 2) ?hd (cs := #[.int .i64 0, .int .i64 0, .slice none 0 0]) (t := 51) ?hr ?_; (case hd => rfl); (case hg => rfl); (case hr => first | (go_simp; done) | (go_simp; rfl)); intro gb159 hg w8 hbox hb; have n0_ := Aside0.mk (below_step q_4 hb); have n1_ := Aside0.mk (hbox); have n2_ := Aside0.mk ((by rw [hg]; exact (below_size q_4) : w.heap.size ≤ gb159)); have n3_ := Aside0.mk ((by rw [hg]; exact (below_size q_4) : w.heap.size ≤ gb159)); clear HB; have HB := n0_; have BK159 := n1_; have GW159 := n2_; have GE159 := n3_; clear n0_ n1_ n2_ n3_; clear hb hbox hg; have p160 : 0 ≤ (255 : Int) := q_13; have q160 : 255 < (l0.length : Int) := of_decide_eq_true q_3; obtain ⟨ad160, e160, hx160_0⟩ := Kd.at_int HR0.out 255 p160 q160; cases e160; (try simp only [show (255 : Int).toNat = 255 from rfl, Nat.reduceMul, Nat.reduceEqDiff, Go.Addr.add, ↓reduceIte] at hx160_0); have qi160 : (255 < l0.length) = True := eq_true q_13; (try rw [show ((255 : Int)).toNat = 255 from rfl] at hx160_0); replace hx160_0 := (HB.out.cell (World.block_lt_of_cell? w _ hx160_0)).trans hx160_0; replace p160 := eq_true p160; replace q160 := eq_true q160; have p161 : 0 ≤ (255 : Int) := q_13; have q161 : 255 < (l0.length : Int) := of_decide_eq_true q_3; obtain ⟨ad161, e161, hx161_0⟩ := Kd.at_int HR0.out 255 p161 q161; obtain rfl : ad160 = ad161 := (by injection e161); (try simp only [show (255 : Int).toNat = 255 from rfl, Nat.reduceMul, Nat.reduceEqDiff, Go.Addr.add, ↓reduceIte] at hx161_0); have qi161 : (255 < l0.length) = True := eq_true q_13; (try rw [show ((255 : Int)).toNat = 255 from rfl] at hx161_0); replace hx161_0 := (HB.out.cell (World.block_lt_of_cell? w _ hx161_0)).trans hx161_0; replace p161 := eq_true p161; replace q161 := eq_true q161; have hcz9_0 : w8.cell? ⟨gb159, 0, none⟩ = some (.int .i64 0) := (blk_cell BK159.out 0).trans rfl; have hcz9_1 : w8.cell? ⟨gb159, 1, none⟩ = some (.int .i64 0) := (blk_cell BK159.out 1).trans rfl; have hcz9_2 : w8.cell? ⟨gb159, 2, none⟩ = some (.slice none 0 0) := (blk_cell BK159.out 2).trans rfl; have hfz9_0 := blk_frozen BK159.out 0; have hfz9_1 := blk_frozen BK159.out 1; have hfz9_2 := blk_frozen BK159.out 2))
          refine bodyPost_ret (results_ct rfl _ _ gb159 51 #[.int .i64 0, .int .i64 0, .slice none 0 0] (0, 0) _ rfl q_2 Try.underlying51 rfl q_11) rfl ?_
          exact ⟨_, by first | rfl | (simp [errW_none, errW_some] <;> rfl) | (simp [*, errW_none, errW_some] <;> rfl), by first | exact Kd.R_nil _ _ _ _ _ | exact Kd.N_nil _ _ _ _ _ | exact Kd.V_nil _ _ _ _ _ | exact Kd.Q_nil _ _ _ _ _ | exact Kd.S_nil _ _ _ _ _, by repeat (first | (with_reducible first | exact HB.out | apply below_alloc | apply pw_below_drewN | apply below_drew1 | refine below_set ?_ GE159.out) | exact HB.out)⟩
        · rw [if_neg c7] at H
          have c7b0 : decide (1 < (rd l0 255)) = false := decide_eq_false c7
          clear c7
          by_cases c10 : 251 ≤ (l0.length : Int)
          · rw [if_pos c10] at H
            have c10b0 := eq_true c10
            have c10b1 : decide (251 ≤ (l0.length : Int)) = true := decide_eq_true c10
            clear c10
            replace H := Option.bind_eq_some_iff.mp H
            obtain ⟨t163, A110, H⟩ := H
            replace H : (if 251 ≤ 255 then (if 255 ≤ (l0.length : Int) then ((slices_Equal_byte_byte.f k t163 ((l0.take 255).drop 251)).bind fun t167 => (if t167 = true then (if 8 ≤ (l0.length : Int) then ((word_Get.f k (l0.take 8)).bind fun bt169 => (if 8 ≤ 16 then (if 16 ≤ (l0.length : Int) then ((word_Get.f k ((l0.take 16).drop 8)).bind fun bt172 => (if 16 < (l0.length : Int) then (if bt169.1 ≥ 72057594037927936 then (some (0, 0, ([] : List Int), 6)) else (if bt172.1 ≥ 72057594037927936 then (some (0, 0, ([] : List Int), 6)) else (if (wrap64 (rd l0 16)) > 234 then (some (0, 0, ([] : List Int), 6)) else (if 0 ≤ (wrap64 (17 + (wrap64 (rd l0 16)))) then (if (wrap64 (17 + (wrap64 (rd l0 16)))) ≤ 251 then ((slices_ContainsFunc_byte_byte.f ((l0.take 251).drop ((wrap64 (17 + (wrap64 (rd l0 16)))) : Int).toNat)).bind fun t176 => (if t176 = true then (some (0, 0, ([] : List Int), 6)) else (if 17 ≤ (wrap64 (17 + (wrap64 (rd l0 16)))) then (if (wrap64 (17 + (wrap64 (rd l0 16)))) ≤ (l0.length : Int) then ((slices_Clone_byte_byte.f ((l0.take ((wrap64 (17 + (wrap64 (rd l0 16)))) : Int).toNat).drop 17)).bind fun t178 => (some (wrap64 (bt169.1), wrap64 (bt172.1), t178, 0))) else (none)) else (none)))) else (none)) else (none))))) else (none))) else (none)) else (none))) else (none)) else (some (0, 0, ([] : List Int), 21)))) else (none)) else (none)) = some (r1, r2, r3, r4) := H
            have A11 := Aside0.mk A110
            clear A110
            by_cases c12 : 251 ≤ 255
            · rw [if_pos c12] at H
              have c12b0 := eq_true c12
              have c12b1 : decide (251 ≤ 255) = true := decide_eq_true c12
              clear c12
              by_cases c13 : 255 ≤ (l0.length : Int)
              · rw [if_pos c13] at H
                have c13b0 := eq_true c13
                have c13b1 : decide (255 ≤ (l0.length : Int)) = true := decide_eq_true c13
                clear c13
                replace H := Option.bind_eq_some_iff.mp H
                obtain ⟨t167, A140, H⟩ := H
                replace H : (if t167 = true then (if 8 ≤ (l0.length : Int) then ((word_Get.f k (l0.take 8)).bind fun bt169 => (if 8 ≤ 16 then (if 16 ≤ (l0.length : Int) then ((word_Get.f k ((l0.take 16).drop 8)).bind fun bt172 => (if 16 < (l0.length : Int) then (if bt169.1 ≥ 72057594037927936 then (some (0, 0, ([] : List Int), 6)) else (if bt172.1 ≥ 72057594037927936 then (some (0, 0, ([] : List Int), 6)) else (if (wrap64 (rd l0 16)) > 234 then (some (0, 0, ([] : List Int), 6)) else (if 0 ≤ (wrap64 (17 + (wrap64 (rd l0 16)))) then (if (wrap64 (17 + (wrap64 (rd l0 16)))) ≤ 251 then ((slices_ContainsFunc_byte_byte.f ((l0.take 251).drop ((wrap64 (17 + (wrap64 (rd l0 16)))) : Int).toNat)).bind fun t176 => (if t176 = true then (some (0, 0, ([] : List Int), 6)) else (if 17 ≤ (wrap64 (17 + (wrap64 (rd l0 16)))) then (if (wrap64 (17 + (wrap64 (rd l0 16)))) ≤ (l0.length : Int) then ((slices_Clone_byte_byte.f ((l0.take ((wrap64 (17 + (wrap64 (rd l0 16)))) : Int).toNat).drop 17)).bind fun t178 => (some (wrap64 (bt169.1), wrap64 (bt172.1), t178, 0))) else (none)) else (none)))) else (none)) else (none))))) else (none))) else (none)) else (none))) else (none)) else (some (0, 0, ([] : List Int), 21))) = some (r1, r2, r3, r4) := H
                have A14 := Aside0.mk A140
                clear A140
                by_cases c15 : t167 = true
                · subst c15
                  have H1 : (if 8 ≤ (l0.length : Int) then ((word_Get.f k (l0.take 8)).bind fun bt169 => (if 8 ≤ 16 then (if 16 ≤ (l0.length : Int) then ((word_Get.f k ((l0.take 16).drop 8)).bind fun bt172 => (if 16 < (l0.length : Int) then (if bt169.1 ≥ 72057594037927936 then (some (0, 0, ([] : List Int), 6)) else (if bt172.1 ≥ 72057594037927936 then (some (0, 0, ([] : List Int), 6)) else (if (wrap64 (rd l0 16)) > 234 then (some (0, 0, ([] : List Int), 6)) else (if 0 ≤ (wrap64 (17 + (wrap64 (rd l0 16)))) then (if (wrap64 (17 + (wrap64 (rd l0 16)))) ≤ 251 then ((slices_ContainsFunc_byte_byte.f ((l0.take 251).drop ((wrap64 (17 + (wrap64 (rd l0 16)))) : Int).toNat)).bind fun t176 => (if t176 = true then (some (0, 0, ([] : List Int), 6)) else (if 17 ≤ (wrap64 (17 + (wrap64 (rd l0 16)))) then (if (wrap64 (17 + (wrap64 (rd l0 16)))) ≤ (l0.length : Int) then ((slices_Clone_byte_byte.f ((l0.take ((wrap64 (17 + (wrap64 (rd l0 16)))) : Int).toNat).drop 17)).bind fun t178 => (some (wrap64 (bt169.1), wrap64 (bt172.1), t178, 0))) else (none)) else (none)))) else (none)) else (none))))) else (none))) else (none)) else (none))) else (none)) = some (r1, r2, r3, r4) := by rw [if_pos rfl] at H; exact H
                  clear H
                  have H := H1
                  clear H1
                  by_cases c16 : 8 ≤ (l0.length : Int)
                  · rw [if_pos c16] at H
                    have c16b0 := eq_true c16
                    have c16b1 : decide (8 ≤ (l0.length : Int)) = true := decide_eq_true c16
                    clear c16
                    replace H := Option.bind_eq_some_iff.mp H
                    obtain ⟨⟨t169, t170⟩, A170, H⟩ := H
                    replace H : (if 8 ≤ 16 then (if 16 ≤ (l0.length : Int) then ((word_Get.f k ((l0.take 16).drop 8)).bind fun bt172 => (if 16 < (l0.length : Int) then (if t169 ≥ 72057594037927936 then (some (0, 0, ([] : List Int), 6)) else (if bt172.1 ≥ 72057594037927936 then (some (0, 0, ([] : List Int), 6)) else (if (wrap64 (rd l0 16)) > 234 then (some (0, 0, ([] : List Int), 6)) else (if 0 ≤ (wrap64 (17 + (wrap64 (rd l0 16)))) then (if (wrap64 (17 + (wrap64 (rd l0 16)))) ≤ 251 then ((slices_ContainsFunc_byte_byte.f ((l0.take 251).drop ((wrap64 (17 + (wrap64 (rd l0 16)))) : Int).toNat)).bind fun t176 => (if t176 = true then (some (0, 0, ([] : List Int), 6)) else (if 17 ≤ (wrap64 (17 + (wrap64 (rd l0 16)))) then (if (wrap64 (17 + (wrap64 (rd l0 16)))) ≤ (l0.length : Int) then ((slices_Clone_byte_byte.f ((l0.take ((wrap64 (17 + (wrap64 (rd l0 16)))) : Int).toNat).drop 17)).bind fun t178 => (some (wrap64 (t169), wrap64 (bt172.1), t178, 0))) else (none)) else (none)))) else (none)) else (none))))) else (none))) else (none)) else (none)) = some (r1, r2, r3, r4) := H
                    have A17 := Aside0.mk A170
                    clear A170
                    by_cases c18 : 8 ≤ 16
                    · rw [if_pos c18] at H
                      have c18b0 := eq_true c18
                      have c18b1 : decide (8 ≤ 16) = true := decide_eq_true c18
                      clear c18
                      by_cases c19 : 16 ≤ (l0.length : Int)
                      · rw [if_pos c19] at H
                        have c19b0 := eq_true c19
                        have c19b1 : decide (16 ≤ (l0.length : Int)) = true := decide_eq_true c19
                        clear c19
                        replace H := Option.bind_eq_some_iff.mp H
                        obtain ⟨⟨t172, t173⟩, A200, H⟩ := H
                        replace H : (if 16 < (l0.length : Int) then (if t169 ≥ 72057594037927936 then (some (0, 0, ([] : List Int), 6)) else (if t172 ≥ 72057594037927936 then (some (0, 0, ([] : List Int), 6)) else (if (wrap64 (rd l0 16)) > 234 then (some (0, 0, ([] : List Int), 6)) else (if 0 ≤ (wrap64 (17 + (wrap64 (rd l0 16)))) then (if (wrap64 (17 + (wrap64 (rd l0 16)))) ≤ 251 then ((slices_ContainsFunc_byte_byte.f ((l0.take 251).drop ((wrap64 (17 + (wrap64 (rd l0 16)))) : Int).toNat)).bind fun t176 => (if t176 = true then (some (0, 0, ([] : List Int), 6)) else (if 17 ≤ (wrap64 (17 + (wrap64 (rd l0 16)))) then (if (wrap64 (17 + (wrap64 (rd l0 16)))) ≤ (l0.length : Int) then ((slices_Clone_byte_byte.f ((l0.take ((wrap64 (17 + (wrap64 (rd l0 16)))) : Int).toNat).drop 17)).bind fun t178 => (some (wrap64 (t169), wrap64 (t172), t178, 0))) else (none)) else (none)))) else (none)) else (none))))) else (none)) = some (r1, r2, r3, r4) := H
                        have A20 := Aside0.mk A200
                        clear A200
                        by_cases c21 : 16 < (l0.length : Int)
                        · rw [if_pos c21] at H
                          have c21b0 : decide (16 < (l0.length : Int)) = true := decide_eq_true c21
                          have c21b1 : decide (16 < l0.length) = true := decide_eq_true q_13
                          clear c21
                          by_cases c22 : t169 ≥ 72057594037927936
                          · rw [if_pos c22] at H
                            have c22b0 : decide (72057594037927936 ≤ t169) = true := decide_eq_true c22
                            clear c22
                            simp only [Option.some.injEq, Prod.mk.injEq] at H
                            obtain ⟨rfl, rfl, rfl, rfl⟩ := H
                            go_enter Try.func32, Try.ntmps32
                            try go_wp2_with (first | ((with_reducible refine gate_dst (N := 2) rfl ?_); refine box_event ?hg (N := 2) ?hd (cs := #[.int .i64 0, .int .i64 0, .slice none 0 0]) (t := 51) ?hr ?_; (case hd => rfl); (case hg => rfl); (case hr => first | (go_simp; done) | (go_simp; rfl)); intro gb159 hg w23 hbox hb; have n0_ := Aside0.mk (below_step q_4 hb); have n1_ := Aside0.mk (hbox); have n2_ := Aside0.mk ((by rw [hg]; exact (below_size q_4) : w.heap.size ≤ gb159)); have n3_ := Aside0.mk ((by rw [hg]; exact (below_size q_4) : w.heap.size ≤ gb159)); clear HB; have HB := n0_; have BK159 := n1_; have GW159 := n2_; have GE159 := n3_; clear n0_ n1_ n2_ n3_; clear hb hbox hg; have p160 : 0 ≤ (255 : Int) := q_13; have q160 : 255 < (l0.length : Int) := of_decide_eq_true q_3; obtain ⟨ad160, e160, hx160_0⟩ := Kd.at_int HR0.out 255 p160 q160; cases e160; (try simp only [show (255 : Int).toNat = 255 from rfl, Nat.reduceMul, Nat.reduceEqDiff, Go.Addr.add, ↓reduceIte] at hx160_0); have qi160 : (255 < l0.length) = True := eq_true q_13; (try rw [show ((255 : Int)).toNat = 255 from rfl] at hx160_0); replace hx160_0 := (HB.out.cell (World.block_lt_of_cell? w _ hx160_0)).trans hx160_0; replace p160 := eq_true p160; replace q160 := eq_true q160; have p161 : 0 ≤ (255 : Int) := q_13; have q161 : 255 < (l0.length : Int) := of_decide_eq_true q_3; obtain ⟨ad161, e161, hx161_0⟩ := Kd.at_int HR0.out 255 p161 q161; obtain rfl : ad160 = ad161 := (by injection e161); (try simp only [show (255 : Int).toNat = 255 from rfl, Nat.reduceMul, Nat.reduceEqDiff, Go.Addr.add, ↓reduceIte] at hx161_0); have qi161 : (255 < l0.length) = True := eq_true q_13; (try rw [show ((255 : Int)).toNat = 255 from rfl] at hx161_0); replace hx161_0 := (HB.out.cell (World.block_lt_of_cell? w _ hx161_0)).trans hx161_0; replace p161 := eq_true p161; replace q161 := eq_true q161))
                            have n0_ := Aside0.mk (blk_drew BK159.out)
                            have n1_ := Aside0.mk (below_drew1 HB.out)
                            clear BK159
                            clear HB
                            have BK159 := n0_
                            have HB := n1_
                            clear n0_ n1_
                            obtain ⟨i025, hi025, _, hsz25, _⟩ := info_parts info5
                            obtain ⟨hcut25, hA25, hC25⟩ := print_take_of (P := Try.prog) (Value.int .u8) 0 27 5 .i64 Try.underlying27 hi025 hsz25 (some ad160) c0 l0 251 q_13 (of_decide_eq_true q_3) HC0.out
                            have HR162 := Aside0.mk (Kd.C_of_reads (h1 := fun _ => rfl) (hA25 _ (Kd.reads_of_C HR0.out)))
                            have HC162 := Aside0.mk hC25
                            clear hA25 hC25 hi025 hsz25
                            obtain ⟨i026, hi026, _, hsz26, _⟩ := info_parts info5
                            obtain ⟨A26, hcut26, hA26, hC26⟩ := print_mid_of (P := Try.prog) (Value.int .u8) 0 27 5 .i64 .i64 Try.underlying27 hi026 hsz26 (some ad160) c0 l0 251 255 q_13 q_12 (of_decide_eq_true q_3) HC0.out
                            have HR166 := Aside0.mk (Kd.C_of_reads (h1 := fun _ => rfl) (hA26 _ (Kd.reads_of_C HR0.out)))
                            have HC166 := Aside0.mk hC26
                            clear hA26 hC26 hi026 hsz26
                            refine start_ (n := 8) (S := fun w' => True) (ds := []) #[false, false, false, false, false, false, false, false] q_11 rfl rfl trivial (fun hHeld => ?_); refine with_tabW record_Read.tab7 record_Read.bits7 (fun HT_ HW_ => ?_)
                            generalize w23.drew = w24 at BK159 HB HR162 HR166 hHeld ⊢
                            refine pure_ (i := 0) (N := some 27) (v := ?_) (a' := ?_) #[true, false, false, false, false, false, false, false] rfl rfl (any_of HT_.out q_11) (fun _ _ _ h => h) (Or.inl ⟨by rfl, ?_⟩) ?_ ?_
                            rotate_left
                            · intro w'
                              go_simp
                              with_reducible rfl
                            rotate_left
                            · simp only [Act.put, List.setIfInBounds_toArray, List.set_cons_zero, List.set_cons_succ, i64_w, i32_w]
                              rfl
                            refine pure_ (i := 1) (N := some 28) (v := ?_) (a' := ?_) #[true, true, false, false, false, false, false, false] rfl rfl (any_of HT_.out q_11) (fun _ _ _ h => h) (Or.inl ⟨by rfl, ?_⟩) ?_ ?_
                            rotate_left
                            · intro w'
                              go_simp
                              with_reducible rfl
                            rotate_left
                            · simp only [Act.put, List.setIfInBounds_toArray, List.set_cons_zero, List.set_cons_succ, i64_w, i32_w]
                              rfl
                            refine pure_ (i := 3) (N := some 30) (v := ?_) (a' := ?_) #[true, true, false, true, false, false, false, false] rfl rfl (any_of HT_.out q_11) (fun _ _ _ h => h) (Or.inl ⟨by rfl, ?_⟩) ?_ ?_
                            rotate_left
                            · intro w'
                              go_simp
                              with_reducible rfl
                            rotate_left
                            · simp only [Act.put, List.setIfInBounds_toArray, List.set_cons_zero, List.set_cons_succ, i64_w, i32_w]
                              rfl
                            refine pure_ (i := 4) (N := some 31) (v := ?_) (a' := ?_) #[true, true, false, true, true, false, false, false] rfl rfl (any_of HT_.out q_11) (fun _ _ _ h => h) (Or.inl ⟨by rfl, ?_⟩) ?_ ?_
                            rotate_left
                            · intro w'
                              go_simp
                              with_reducible rfl
                            rotate_left
                            · simp only [Act.put, List.setIfInBounds_toArray, List.set_cons_zero, List.set_cons_succ, i64_w, i32_w]
                              rfl
                            refine one_ (i := 2) (N := some 29) #[true, true, true, true, true, false, false, false] rfl rfl (one_of HT_.out q_11) (by decide) (fun K hK => ?_)
                            refine goes_ Try.func41 q_11 rfl #[.slice (some ad160) (l0.take 251).length c0] (by rfl) rfl rfl q_7 ?_
                            with_reducible refine (record_sums.calls k _ _ (l0.take 251) t163 _ ?side1 ?side2 A11.out).mono ?_
                            (case side1 => repeat (first | exact (Kd.C_below HR162.out HB.out) | (with_reducible refine Kd.C_alloc ?_ _) | (with_reducible refine Kd.C_drewN ?_ _) | (with_reducible refine Kd.C_drew ?_)))
                            (case side2 => exact HC162.out)
                            rintro e w27 ⟨v164, rfl, ho0, hb⟩
                            refine ⟨_, rfl, ?_⟩
                            have n0_ := Aside0.mk (Kd.R_lower ho0 (below_size q_1))
                            have n1_ := Aside0.mk (blk_below (g := gb159) (o := .cells #[.int .i64 0, .int .i64 0, .slice none 0 0] 51 (0, 0)) q_5 hb)
                            have n2_ := Aside0.mk (below_step q_1 hb)
                            clear BK159
                            clear HB
                            have HO165 := n0_
                            have BK159 := n1_
                            have HB := n2_
                            clear n0_ n1_ n2_
                            (try clear hb)
                            (try clear hb2)
                            (try clear hk)
                            (try clear hi)
                            (try clear ho0)
                            obtain ⟨Ao28, co28, eo28⟩ := Kd.R_slice HO165.out
                            (first | subst eo28 | (injection eo28 with f1_ f2_ f3_; have f4_ := f1_.symm; have f5_ := f3_.symm; clear f1_ f2_ f3_; subst f4_; subst f5_))
                            refine hK.out _ _ trivial (fun hHeld => ?_)
                            clear hK K
                            refine norm_ (a' := ?_) ?_ ?_
                            rotate_left
                            · show Act.put _ (some 29) _ = _
                              simp only [Act.put, List.setIfInBounds_toArray, List.set_cons_zero, List.set_cons_succ, i64_w, i32_w]
                              rfl
                            refine one_ (i := 5) (N := some 32) #[true, true, true, true, true, true, false, false] rfl rfl (one_of HT_.out q_11) (by decide) (fun K hK => ?_)
                            refine goes_ Try.func42 q_11 rfl #[.slice Ao28 t163.length co28, .slice A26 ((l0.take 255).drop 251).length (c0 - 251)] (by rfl) rfl rfl q_6 ?_
                            with_reducible refine (slices_Equal_byte_byte.calls k _ _ t163 _ _ ((l0.take 255).drop 251) true _ ?side1 ?side2 ?side3 ?side4 A14.out).mono ?_
                            (case side1 => repeat (first | exact (Kd.R_reads' HO165.out).2.2 | (with_reducible refine Kd.C_alloc ?_ _) | (with_reducible refine Kd.C_drewN ?_ _) | (with_reducible refine Kd.C_drew ?_)))
                            (case side2 => exact (Kd.R_reads' HO165.out).2.1)
                            (case side3 => repeat (first | exact (Kd.C_below HR166.out HB.out) | (with_reducible refine Kd.C_alloc ?_ _) | (with_reducible refine Kd.C_drewN ?_ _) | (with_reducible refine Kd.C_drew ?_)))
                            (case side4 => exact HC166.out)
                            rintro e w' ⟨rfl, ⟨nd, rfl⟩⟩
                            refine ⟨_, rfl, ?_⟩
                            refine hK.out _ _ trivial (fun hHeld => ?_)
                            clear hK K
                            refine norm_ (a' := ?_) ?_ ?_
                            rotate_left
                            · show Act.put _ (some 32) _ = _
                              simp only [Act.put, List.setIfInBounds_toArray, List.set_cons_zero, List.set_cons_succ, i64_w, i32_w]
                              rfl
                            refine pure_ (i := 6) (N := some 33) (v := ?_) (a' := ?_) #[true, true, true, true, true, true, true, false] rfl rfl (any_of HT_.out q_11) (fun _ _ _ h => h) (Or.inl ⟨by rfl, ?_⟩) ?_ ?_
                            rotate_left
                            · intro w'
                              go_simp
                              with_reducible rfl
                            rotate_left
                            · simp only [Act.put, List.setIfInBounds_toArray, List.set_cons_zero, List.set_cons_succ, i64_w, i32_w]
                              rfl
                            refine pure_ (i := 7) (N := some 26) (v := ?_) (a' := ?_) #[true, true, true, true, true, true, true, true] rfl rfl (any_of HT_.out q_11) (fun _ _ _ h => h) (Or.inl ⟨by rfl, ?_⟩) ?_ ?_
                            rotate_left
                            · intro w'
                              go_simp
                              with_reducible rfl
                            rotate_left
                            · simp only [Act.put, List.setIfInBounds_toArray, List.set_cons_zero, List.set_cons_succ, i64_w, i32_w]
                              rfl
                            refine done_ (done_of HT_.out q_11) ?_
                            obtain ⟨i029, hi029, _, hsz29, _⟩ := info_parts info5
                            obtain ⟨hcut29, hA29, hC29⟩ := print_take_of (P := Try.prog) (Value.int .u8) 0 27 5 .i64 Try.underlying27 hi029 hsz29 (some ad160) c0 l0 8 q_13 (of_decide_eq_true q_3) HC0.out
                            have HR168 := Aside0.mk (Kd.C_of_reads (h1 := fun _ => rfl) (hA29 _ (Kd.reads_of_C HR0.out)))
                            have HC168 := Aside0.mk hC29
                            clear hA29 hC29 hi029 hsz29
                            try go_wp2_with (first | ((with_reducible refine gate_callee (f := 17) rfl ?_); refine goesL_ (some 38) rfl rfl Try.func17 q_11 rfl #[.slice (some ad160) (l0.take 8).length c0] rfl q_10 ?_; (with_reducible refine (word_Get.calls k _ _ (l0.take 8) t169 t170 _ ?side1 ?side2 A17.out).mono ?_); (case side1 => repeat (first | exact (Kd.C_below HR168.out q_1) | (with_reducible refine Kd.C_alloc ?_ _) | (with_reducible refine Kd.C_drewN ?_ _) | (with_reducible refine Kd.C_drew ?_))); (case side2 => exact HC168.out); rintro e w' ⟨rfl, ⟨nd, rfl⟩⟩; refine ⟨_, rfl, ?_⟩; (try (rw [drewN_self w27]; generalize hq_ : World.drewN w27 _ = w27; have n0_ : Aside0 (Kd.R (Kd.int .u8) 5 w27 w.heap.size (fun _ => True) (.slice Ao28 t163.length co28) t163) := ⟨by rw [← hq_]; exact q_8⟩; have n1_ : Aside0 (w27.heap[gb159]? = some (.cells #[.int .i64 0, .int .i64 0, .slice none 0 0] 51 (0, 0))) := ⟨by rw [← hq_]; exact q_5⟩; have n2_ : Aside0 (Below w.heap.size w w27) := ⟨by rw [← hq_]; exact q_1⟩; clear HO165 BK159 HB hq_; have HO165 := n0_; have BK159 := n1_; have HB := n2_; clear n0_ n1_ n2_)); obtain ⟨i030, hi030, _, hsz30, _⟩ := info_parts info5; obtain ⟨A30, hcut30, hA30, hC30⟩ := print_mid_of (P := Try.prog) (Value.int .u8) 0 27 5 .i64 .i64 Try.underlying27 hi030 hsz30 (some ad160) c0 l0 8 16 q_13 q_12 (of_decide_eq_true q_3) HC0.out; have HR171 := Aside0.mk (Kd.C_of_reads (h1 := fun _ => rfl) (hA30 _ (Kd.reads_of_C HR0.out))); have HC171 := Aside0.mk hC30; clear hA30 hC30 hi030 hsz30) | ((with_reducible refine gate_callee (f := 17) rfl ?_); refine goesL_ (some 44) rfl rfl Try.func17 q_11 rfl #[.slice A30 ((l0.take 16).drop 8).length (c0 - 8)] rfl q_9 ?_; (with_reducible refine (word_Get.calls k _ _ ((l0.take 16).drop 8) t172 t173 _ ?side1 ?side2 A20.out).mono ?_); (case side1 => repeat (first | exact (Kd.C_below HR171.out HB.out) | (with_reducible refine Kd.C_alloc ?_ _) | (with_reducible refine Kd.C_drewN ?_ _) | (with_reducible refine Kd.C_drew ?_))); (case side2 => exact HC171.out); rintro e w' ⟨rfl, ⟨nd, rfl⟩⟩; refine ⟨_, rfl, ?_⟩; (try (rw [drewN_self w27]; generalize hq_ : World.drewN w27 _ = w27; have n0_ : Aside0 (Kd.R (Kd.int .u8) 5 w27 w.heap.size (fun _ => True) (.slice Ao28 t163.length co28) t163) := ⟨by rw [← hq_]; exact q_8⟩; have n1_ : Aside0 (w27.heap[gb159]? = some (.cells #[.int .i64 0, .int .i64 0, .slice none 0 0] 51 (0, 0))) := ⟨by rw [← hq_]; exact q_5⟩; have n2_ : Aside0 (Below w.heap.size w w27) := ⟨by rw [← hq_]; exact q_1⟩; clear HO165 BK159 HB hq_; have HO165 := n0_; have BK159 := n1_; have HB := n2_; clear n0_ n1_ n2_)); have p174 : 0 ≤ (16 : Int) := q_13; have q174 : 16 < (l0.length : Int) := of_decide_eq_true q_3; obtain ⟨ad174, e174, hx174_0⟩ := Kd.at_int HR0.out 16 p174 q174; obtain rfl : ad160 = ad174 := (by injection e174); (try simp only [show (16 : Int).toNat = 16 from rfl, Nat.reduceMul, Nat.reduceEqDiff, Go.Addr.add, ↓reduceIte] at hx174_0); have qi174 : (16 < l0.length) = True := eq_true q_13; (try rw [show ((16 : Int)).toNat = 16 from rfl] at hx174_0); replace hx174_0 := (HB.out.cell (World.block_lt_of_cell? w _ hx174_0)).trans hx174_0; replace p174 := eq_true p174; replace q174 := eq_true q174; have hcz31_0 : w27.cell? ⟨gb159, 0, none⟩ = some (.int .i64 0) := (blk_cell BK159.out 0).trans rfl; have hcz31_1 : w27.cell? ⟨gb159, 1, none⟩ = some (.int .i64 0) := (blk_cell BK159.out 1).trans rfl; have hcz31_2 : w27.cell? ⟨gb159, 2, none⟩ = some (.slice none 0 0) := (blk_cell BK159.out 2).trans rfl; have hfz31_0 := blk_frozen BK159.out 0; have hfz31_1 := blk_frozen BK159.out 1; have hfz31_2 := blk_frozen BK159.out 2))
                            refine bodyPost_ret (results_ct rfl _ _ gb159 51 #[.int .i64 0, .int .i64 0, .slice none 0 0] (0, 0) _ rfl q_2 Try.underlying51 rfl q_11) rfl ?_
                            exact ⟨_, by first | rfl | (simp [errW_none, errW_some] <;> rfl) | (simp [*, errW_none, errW_some] <;> rfl), by first | exact Kd.R_nil _ _ _ _ _ | exact Kd.N_nil _ _ _ _ _ | exact Kd.V_nil _ _ _ _ _ | exact Kd.Q_nil _ _ _ _ _ | exact Kd.S_nil _ _ _ _ _, by repeat (first | (with_reducible first | exact HB.out | apply below_alloc | apply pw_below_drewN | apply below_drew1 | refine below_set ?_ GE159.out) | exact HB.out)⟩
                          · rw [if_neg c22] at H
                            have c22b0 : decide (72057594037927936 ≤ t169) = false := decide_eq_false c22
                            clear c22
                            by_cases c32 : t172 ≥ 72057594037927936
                            · rw [if_pos c32] at H
                              have c32b0 : decide (72057594037927936 ≤ t172) = true := decide_eq_true c32
                              clear c32
                              simp only [Option.some.injEq, Prod.mk.injEq] at H
                              obtain ⟨rfl, rfl, rfl, rfl⟩ := H
                              go_enter Try.func32, Try.ntmps32
                              try go_wp2_with (first | ((with_reducible refine gate_dst (N := 2) rfl ?_); refine box_event ?hg (N := 2) ?hd (cs := #[.int .i64 0, .int .i64 0, .slice none 0 0]) (t := 51) ?hr ?_; (case hd => rfl); (case hg => rfl); (case hr => first | (go_simp; done) | (go_simp; rfl)); intro gb159 hg w33 hbox hb; have n0_ := Aside0.mk (below_step q_4 hb); have n1_ := Aside0.mk (hbox); have n2_ := Aside0.mk ((by rw [hg]; exact (below_size q_4) : w.heap.size ≤ gb159)); have n3_ := Aside0.mk ((by rw [hg]; exact (below_size q_4) : w.heap.size ≤ gb159)); clear HB; have HB := n0_; have BK159 := n1_; have GW159 := n2_; have GE159 := n3_; clear n0_ n1_ n2_ n3_; clear hb hbox hg; have p160 : 0 ≤ (255 : Int) := q_13; have q160 : 255 < (l0.length : Int) := of_decide_eq_true q_3; obtain ⟨ad160, e160, hx160_0⟩ := Kd.at_int HR0.out 255 p160 q160; cases e160; (try simp only [show (255 : Int).toNat = 255 from rfl, Nat.reduceMul, Nat.reduceEqDiff, Go.Addr.add, ↓reduceIte] at hx160_0); have qi160 : (255 < l0.length) = True := eq_true q_13; (try rw [show ((255 : Int)).toNat = 255 from rfl] at hx160_0); replace hx160_0 := (HB.out.cell (World.block_lt_of_cell? w _ hx160_0)).trans hx160_0; replace p160 := eq_true p160; replace q160 := eq_true q160; have p161 : 0 ≤ (255 : Int) := q_13; have q161 : 255 < (l0.length : Int) := of_decide_eq_true q_3; obtain ⟨ad161, e161, hx161_0⟩ := Kd.at_int HR0.out 255 p161 q161; obtain rfl : ad160 = ad161 := (by injection e161); (try simp only [show (255 : Int).toNat = 255 from rfl, Nat.reduceMul, Nat.reduceEqDiff, Go.Addr.add, ↓reduceIte] at hx161_0); have qi161 : (255 < l0.length) = True := eq_true q_13; (try rw [show ((255 : Int)).toNat = 255 from rfl] at hx161_0); replace hx161_0 := (HB.out.cell (World.block_lt_of_cell? w _ hx161_0)).trans hx161_0; replace p161 := eq_true p161; replace q161 := eq_true q161))
                              have n0_ := Aside0.mk (blk_drew BK159.out)
                              have n1_ := Aside0.mk (below_drew1 HB.out)
                              clear BK159
                              clear HB
                              have BK159 := n0_
                              have HB := n1_
                              clear n0_ n1_
                              obtain ⟨i035, hi035, _, hsz35, _⟩ := info_parts info5
                              obtain ⟨hcut35, hA35, hC35⟩ := print_take_of (P := Try.prog) (Value.int .u8) 0 27 5 .i64 Try.underlying27 hi035 hsz35 (some ad160) c0 l0 251 q_13 (of_decide_eq_true q_3) HC0.out
                              have HR162 := Aside0.mk (Kd.C_of_reads (h1 := fun _ => rfl) (hA35 _ (Kd.reads_of_C HR0.out)))
                              have HC162 := Aside0.mk hC35
                              clear hA35 hC35 hi035 hsz35
                              obtain ⟨i036, hi036, _, hsz36, _⟩ := info_parts info5
                              obtain ⟨A36, hcut36, hA36, hC36⟩ := print_mid_of (P := Try.prog) (Value.int .u8) 0 27 5 .i64 .i64 Try.underlying27 hi036 hsz36 (some ad160) c0 l0 251 255 q_13 q_12 (of_decide_eq_true q_3) HC0.out
                              have HR166 := Aside0.mk (Kd.C_of_reads (h1 := fun _ => rfl) (hA36 _ (Kd.reads_of_C HR0.out)))
                              have HC166 := Aside0.mk hC36
                              clear hA36 hC36 hi036 hsz36
                              refine start_ (n := 8) (S := fun w' => True) (ds := []) #[false, false, false, false, false, false, false, false] q_11 rfl rfl trivial (fun hHeld => ?_); refine with_tabW record_Read.tab7 record_Read.bits7 (fun HT_ HW_ => ?_)
                              generalize w33.drew = w34 at BK159 HB HR162 HR166 hHeld ⊢
                              refine pure_ (i := 0) (N := some 27) (v := ?_) (a' := ?_) #[true, false, false, false, false, false, false, false] rfl rfl (any_of HT_.out q_11) (fun _ _ _ h => h) (Or.inl ⟨by rfl, ?_⟩) ?_ ?_
                              rotate_left
                              · intro w'
                                go_simp
                                with_reducible rfl
                              rotate_left
                              · simp only [Act.put, List.setIfInBounds_toArray, List.set_cons_zero, List.set_cons_succ, i64_w, i32_w]
                                rfl
                              refine pure_ (i := 1) (N := some 28) (v := ?_) (a' := ?_) #[true, true, false, false, false, false, false, false] rfl rfl (any_of HT_.out q_11) (fun _ _ _ h => h) (Or.inl ⟨by rfl, ?_⟩) ?_ ?_
                              rotate_left
                              · intro w'
                                go_simp
                                with_reducible rfl
                              rotate_left
                              · simp only [Act.put, List.setIfInBounds_toArray, List.set_cons_zero, List.set_cons_succ, i64_w, i32_w]
                                rfl
                              refine pure_ (i := 3) (N := some 30) (v := ?_) (a' := ?_) #[true, true, false, true, false, false, false, false] rfl rfl (any_of HT_.out q_11) (fun _ _ _ h => h) (Or.inl ⟨by rfl, ?_⟩) ?_ ?_
                              rotate_left
                              · intro w'
                                go_simp
                                with_reducible rfl
                              rotate_left
                              · simp only [Act.put, List.setIfInBounds_toArray, List.set_cons_zero, List.set_cons_succ, i64_w, i32_w]
                                rfl
                              refine pure_ (i := 4) (N := some 31) (v := ?_) (a' := ?_) #[true, true, false, true, true, false, false, false] rfl rfl (any_of HT_.out q_11) (fun _ _ _ h => h) (Or.inl ⟨by rfl, ?_⟩) ?_ ?_
                              rotate_left
                              · intro w'
                                go_simp
                                with_reducible rfl
                              rotate_left
                              · simp only [Act.put, List.setIfInBounds_toArray, List.set_cons_zero, List.set_cons_succ, i64_w, i32_w]
                                rfl
                              refine one_ (i := 2) (N := some 29) #[true, true, true, true, true, false, false, false] rfl rfl (one_of HT_.out q_11) (by decide) (fun K hK => ?_)
                              refine goes_ Try.func41 q_11 rfl #[.slice (some ad160) (l0.take 251).length c0] (by rfl) rfl rfl q_7 ?_
                              with_reducible refine (record_sums.calls k _ _ (l0.take 251) t163 _ ?side1 ?side2 A11.out).mono ?_
                              (case side1 => repeat (first | exact (Kd.C_below HR162.out HB.out) | (with_reducible refine Kd.C_alloc ?_ _) | (with_reducible refine Kd.C_drewN ?_ _) | (with_reducible refine Kd.C_drew ?_)))
                              (case side2 => exact HC162.out)
                              rintro e w37 ⟨v164, rfl, ho0, hb⟩
                              refine ⟨_, rfl, ?_⟩
                              have n0_ := Aside0.mk (Kd.R_lower ho0 (below_size q_1))
                              have n1_ := Aside0.mk (blk_below (g := gb159) (o := .cells #[.int .i64 0, .int .i64 0, .slice none 0 0] 51 (0, 0)) q_5 hb)
                              have n2_ := Aside0.mk (below_step q_1 hb)
                              clear BK159
                              clear HB
                              have HO165 := n0_
                              have BK159 := n1_
                              have HB := n2_
                              clear n0_ n1_ n2_
                              (try clear hb)
                              (try clear hb2)
                              (try clear hk)
                              (try clear hi)
                              (try clear ho0)
                              obtain ⟨Ao38, co38, eo38⟩ := Kd.R_slice HO165.out
                              (first | subst eo38 | (injection eo38 with f1_ f2_ f3_; have f4_ := f1_.symm; have f5_ := f3_.symm; clear f1_ f2_ f3_; subst f4_; subst f5_))
                              refine hK.out _ _ trivial (fun hHeld => ?_)
                              clear hK K
                              refine norm_ (a' := ?_) ?_ ?_
                              rotate_left
                              · show Act.put _ (some 29) _ = _
                                simp only [Act.put, List.setIfInBounds_toArray, List.set_cons_zero, List.set_cons_succ, i64_w, i32_w]
                                rfl
                              refine one_ (i := 5) (N := some 32) #[true, true, true, true, true, true, false, false] rfl rfl (one_of HT_.out q_11) (by decide) (fun K hK => ?_)
                              refine goes_ Try.func42 q_11 rfl #[.slice Ao38 t163.length co38, .slice A36 ((l0.take 255).drop 251).length (c0 - 251)] (by rfl) rfl rfl q_6 ?_
                              with_reducible refine (slices_Equal_byte_byte.calls k _ _ t163 _ _ ((l0.take 255).drop 251) true _ ?side1 ?side2 ?side3 ?side4 A14.out).mono ?_
                              (case side1 => repeat (first | exact (Kd.R_reads' HO165.out).2.2 | (with_reducible refine Kd.C_alloc ?_ _) | (with_reducible refine Kd.C_drewN ?_ _) | (with_reducible refine Kd.C_drew ?_)))
                              (case side2 => exact (Kd.R_reads' HO165.out).2.1)
                              (case side3 => repeat (first | exact (Kd.C_below HR166.out HB.out) | (with_reducible refine Kd.C_alloc ?_ _) | (with_reducible refine Kd.C_drewN ?_ _) | (with_reducible refine Kd.C_drew ?_)))
                              (case side4 => exact HC166.out)
                              rintro e w' ⟨rfl, ⟨nd, rfl⟩⟩
                              refine ⟨_, rfl, ?_⟩
                              refine hK.out _ _ trivial (fun hHeld => ?_)
                              clear hK K
                              refine norm_ (a' := ?_) ?_ ?_
                              rotate_left
                              · show Act.put _ (some 32) _ = _
                                simp only [Act.put, List.setIfInBounds_toArray, List.set_cons_zero, List.set_cons_succ, i64_w, i32_w]
                                rfl
                              refine pure_ (i := 6) (N := some 33) (v := ?_) (a' := ?_) #[true, true, true, true, true, true, true, false] rfl rfl (any_of HT_.out q_11) (fun _ _ _ h => h) (Or.inl ⟨by rfl, ?_⟩) ?_ ?_
                              rotate_left
                              · intro w'
                                go_simp
                                with_reducible rfl
                              rotate_left
                              · simp only [Act.put, List.setIfInBounds_toArray, List.set_cons_zero, List.set_cons_succ, i64_w, i32_w]
                                rfl
                              refine pure_ (i := 7) (N := some 26) (v := ?_) (a' := ?_) #[true, true, true, true, true, true, true, true] rfl rfl (any_of HT_.out q_11) (fun _ _ _ h => h) (Or.inl ⟨by rfl, ?_⟩) ?_ ?_
                              rotate_left
                              · intro w'
                                go_simp
                                with_reducible rfl
                              rotate_left
                              · simp only [Act.put, List.setIfInBounds_toArray, List.set_cons_zero, List.set_cons_succ, i64_w, i32_w]
                                rfl
                              refine done_ (done_of HT_.out q_11) ?_
                              obtain ⟨i039, hi039, _, hsz39, _⟩ := info_parts info5
                              obtain ⟨hcut39, hA39, hC39⟩ := print_take_of (P := Try.prog) (Value.int .u8) 0 27 5 .i64 Try.underlying27 hi039 hsz39 (some ad160) c0 l0 8 q_13 (of_decide_eq_true q_3) HC0.out
                              have HR168 := Aside0.mk (Kd.C_of_reads (h1 := fun _ => rfl) (hA39 _ (Kd.reads_of_C HR0.out)))
                              have HC168 := Aside0.mk hC39
                              clear hA39 hC39 hi039 hsz39
                              try go_wp2_with (first | ((with_reducible refine gate_callee (f := 17) rfl ?_); refine goesL_ (some 38) rfl rfl Try.func17 q_11 rfl #[.slice (some ad160) (l0.take 8).length c0] rfl q_10 ?_; (with_reducible refine (word_Get.calls k _ _ (l0.take 8) t169 t170 _ ?side1 ?side2 A17.out).mono ?_); (case side1 => repeat (first | exact (Kd.C_below HR168.out q_1) | (with_reducible refine Kd.C_alloc ?_ _) | (with_reducible refine Kd.C_drewN ?_ _) | (with_reducible refine Kd.C_drew ?_))); (case side2 => exact HC168.out); rintro e w' ⟨rfl, ⟨nd, rfl⟩⟩; refine ⟨_, rfl, ?_⟩; (try (rw [drewN_self w37]; generalize hq_ : World.drewN w37 _ = w37; have n0_ : Aside0 (Kd.R (Kd.int .u8) 5 w37 w.heap.size (fun _ => True) (.slice Ao38 t163.length co38) t163) := ⟨by rw [← hq_]; exact q_8⟩; have n1_ : Aside0 (w37.heap[gb159]? = some (.cells #[.int .i64 0, .int .i64 0, .slice none 0 0] 51 (0, 0))) := ⟨by rw [← hq_]; exact q_5⟩; have n2_ : Aside0 (Below w.heap.size w w37) := ⟨by rw [← hq_]; exact q_1⟩; clear HO165 BK159 HB hq_; have HO165 := n0_; have BK159 := n1_; have HB := n2_; clear n0_ n1_ n2_)); obtain ⟨i040, hi040, _, hsz40, _⟩ := info_parts info5; obtain ⟨A40, hcut40, hA40, hC40⟩ := print_mid_of (P := Try.prog) (Value.int .u8) 0 27 5 .i64 .i64 Try.underlying27 hi040 hsz40 (some ad160) c0 l0 8 16 q_13 q_12 (of_decide_eq_true q_3) HC0.out; have HR171 := Aside0.mk (Kd.C_of_reads (h1 := fun _ => rfl) (hA40 _ (Kd.reads_of_C HR0.out))); have HC171 := Aside0.mk hC40; clear hA40 hC40 hi040 hsz40) | ((with_reducible refine gate_callee (f := 17) rfl ?_); refine goesL_ (some 44) rfl rfl Try.func17 q_11 rfl #[.slice A40 ((l0.take 16).drop 8).length (c0 - 8)] rfl q_9 ?_; (with_reducible refine (word_Get.calls k _ _ ((l0.take 16).drop 8) t172 t173 _ ?side1 ?side2 A20.out).mono ?_); (case side1 => repeat (first | exact (Kd.C_below HR171.out HB.out) | (with_reducible refine Kd.C_alloc ?_ _) | (with_reducible refine Kd.C_drewN ?_ _) | (with_reducible refine Kd.C_drew ?_))); (case side2 => exact HC171.out); rintro e w' ⟨rfl, ⟨nd, rfl⟩⟩; refine ⟨_, rfl, ?_⟩; (try (rw [drewN_self w37]; generalize hq_ : World.drewN w37 _ = w37; have n0_ : Aside0 (Kd.R (Kd.int .u8) 5 w37 w.heap.size (fun _ => True) (.slice Ao38 t163.length co38) t163) := ⟨by rw [← hq_]; exact q_8⟩; have n1_ : Aside0 (w37.heap[gb159]? = some (.cells #[.int .i64 0, .int .i64 0, .slice none 0 0] 51 (0, 0))) := ⟨by rw [← hq_]; exact q_5⟩; have n2_ : Aside0 (Below w.heap.size w w37) := ⟨by rw [← hq_]; exact q_1⟩; clear HO165 BK159 HB hq_; have HO165 := n0_; have BK159 := n1_; have HB := n2_; clear n0_ n1_ n2_)); have p174 : 0 ≤ (16 : Int) := q_13; have q174 : 16 < (l0.length : Int) := of_decide_eq_true q_3; obtain ⟨ad174, e174, hx174_0⟩ := Kd.at_int HR0.out 16 p174 q174; obtain rfl : ad160 = ad174 := (by injection e174); (try simp only [show (16 : Int).toNat = 16 from rfl, Nat.reduceMul, Nat.reduceEqDiff, Go.Addr.add, ↓reduceIte] at hx174_0); have qi174 : (16 < l0.length) = True := eq_true q_13; (try rw [show ((16 : Int)).toNat = 16 from rfl] at hx174_0); replace hx174_0 := (HB.out.cell (World.block_lt_of_cell? w _ hx174_0)).trans hx174_0; replace p174 := eq_true p174; replace q174 := eq_true q174; have hcz41_0 : w37.cell? ⟨gb159, 0, none⟩ = some (.int .i64 0) := (blk_cell BK159.out 0).trans rfl; have hcz41_1 : w37.cell? ⟨gb159, 1, none⟩ = some (.int .i64 0) := (blk_cell BK159.out 1).trans rfl; have hcz41_2 : w37.cell? ⟨gb159, 2, none⟩ = some (.slice none 0 0) := (blk_cell BK159.out 2).trans rfl; have hfz41_0 := blk_frozen BK159.out 0; have hfz41_1 := blk_frozen BK159.out 1; have hfz41_2 := blk_frozen BK159.out 2))
                              refine bodyPost_ret (results_ct rfl _ _ gb159 51 #[.int .i64 0, .int .i64 0, .slice none 0 0] (0, 0) _ rfl q_2 Try.underlying51 rfl q_11) rfl ?_
                              exact ⟨_, by first | rfl | (simp [errW_none, errW_some] <;> rfl) | (simp [*, errW_none, errW_some] <;> rfl), by first | exact Kd.R_nil _ _ _ _ _ | exact Kd.N_nil _ _ _ _ _ | exact Kd.V_nil _ _ _ _ _ | exact Kd.Q_nil _ _ _ _ _ | exact Kd.S_nil _ _ _ _ _, by repeat (first | (with_reducible first | exact HB.out | apply below_alloc | apply pw_below_drewN | apply below_drew1 | refine below_set ?_ GE159.out) | exact HB.out)⟩
                            · rw [if_neg c32] at H
                              have c32b0 : decide (72057594037927936 ≤ t172) = false := decide_eq_false c32
                              clear c32
                              by_cases c42 : (wrap64 (rd l0 16)) > 234
                              · rw [if_pos c42] at H
                                have c42b0 : decide (234 < (wrap64 (rd l0 16))) = true := decide_eq_true c42
                                clear c42
                                simp only [Option.some.injEq, Prod.mk.injEq] at H
                                obtain ⟨rfl, rfl, rfl, rfl⟩ := H
                                go_enter Try.func32, Try.ntmps32
                                try go_wp2_with (first | ((with_reducible refine gate_dst (N := 2) rfl ?_); refine box_event ?hg (N := 2) ?hd (cs := #[.int .i64 0, .int .i64 0, .slice none 0 0]) (t := 51) ?hr ?_; (case hd => rfl); (case hg => rfl); (case hr => first | (go_simp; done) | (go_simp; rfl)); intro gb159 hg w43 hbox hb; have n0_ := Aside0.mk (below_step q_4 hb); have n1_ := Aside0.mk (hbox); have n2_ := Aside0.mk ((by rw [hg]; exact (below_size q_4) : w.heap.size ≤ gb159)); have n3_ := Aside0.mk ((by rw [hg]; exact (below_size q_4) : w.heap.size ≤ gb159)); clear HB; have HB := n0_; have BK159 := n1_; have GW159 := n2_; have GE159 := n3_; clear n0_ n1_ n2_ n3_; clear hb hbox hg; have p160 : 0 ≤ (255 : Int) := q_13; have q160 : 255 < (l0.length : Int) := of_decide_eq_true q_3; obtain ⟨ad160, e160, hx160_0⟩ := Kd.at_int HR0.out 255 p160 q160; cases e160; (try simp only [show (255 : Int).toNat = 255 from rfl, Nat.reduceMul, Nat.reduceEqDiff, Go.Addr.add, ↓reduceIte] at hx160_0); have qi160 : (255 < l0.length) = True := eq_true q_13; (try rw [show ((255 : Int)).toNat = 255 from rfl] at hx160_0); replace hx160_0 := (HB.out.cell (World.block_lt_of_cell? w _ hx160_0)).trans hx160_0; replace p160 := eq_true p160; replace q160 := eq_true q160; have p161 : 0 ≤ (255 : Int) := q_13; have q161 : 255 < (l0.length : Int) := of_decide_eq_true q_3; obtain ⟨ad161, e161, hx161_0⟩ := Kd.at_int HR0.out 255 p161 q161; obtain rfl : ad160 = ad161 := (by injection e161); (try simp only [show (255 : Int).toNat = 255 from rfl, Nat.reduceMul, Nat.reduceEqDiff, Go.Addr.add, ↓reduceIte] at hx161_0); have qi161 : (255 < l0.length) = True := eq_true q_13; (try rw [show ((255 : Int)).toNat = 255 from rfl] at hx161_0); replace hx161_0 := (HB.out.cell (World.block_lt_of_cell? w _ hx161_0)).trans hx161_0; replace p161 := eq_true p161; replace q161 := eq_true q161))
                                have n0_ := Aside0.mk (blk_drew BK159.out)
                                have n1_ := Aside0.mk (below_drew1 HB.out)
                                clear BK159
                                clear HB
                                have BK159 := n0_
                                have HB := n1_
                                clear n0_ n1_
                                obtain ⟨i045, hi045, _, hsz45, _⟩ := info_parts info5
                                obtain ⟨hcut45, hA45, hC45⟩ := print_take_of (P := Try.prog) (Value.int .u8) 0 27 5 .i64 Try.underlying27 hi045 hsz45 (some ad160) c0 l0 251 q_13 (of_decide_eq_true q_3) HC0.out
                                have HR162 := Aside0.mk (Kd.C_of_reads (h1 := fun _ => rfl) (hA45 _ (Kd.reads_of_C HR0.out)))
                                have HC162 := Aside0.mk hC45
                                clear hA45 hC45 hi045 hsz45
                                obtain ⟨i046, hi046, _, hsz46, _⟩ := info_parts info5
                                obtain ⟨A46, hcut46, hA46, hC46⟩ := print_mid_of (P := Try.prog) (Value.int .u8) 0 27 5 .i64 .i64 Try.underlying27 hi046 hsz46 (some ad160) c0 l0 251 255 q_13 q_12 (of_decide_eq_true q_3) HC0.out
                                have HR166 := Aside0.mk (Kd.C_of_reads (h1 := fun _ => rfl) (hA46 _ (Kd.reads_of_C HR0.out)))
                                have HC166 := Aside0.mk hC46
                                clear hA46 hC46 hi046 hsz46
                                refine start_ (n := 8) (S := fun w' => True) (ds := []) #[false, false, false, false, false, false, false, false] q_11 rfl rfl trivial (fun hHeld => ?_); refine with_tabW record_Read.tab7 record_Read.bits7 (fun HT_ HW_ => ?_)
                                generalize w43.drew = w44 at BK159 HB HR162 HR166 hHeld ⊢
                                refine pure_ (i := 0) (N := some 27) (v := ?_) (a' := ?_) #[true, false, false, false, false, false, false, false] rfl rfl (any_of HT_.out q_11) (fun _ _ _ h => h) (Or.inl ⟨by rfl, ?_⟩) ?_ ?_
                                rotate_left
                                · intro w'
                                  go_simp
                                  with_reducible rfl
                                rotate_left
                                · simp only [Act.put, List.setIfInBounds_toArray, List.set_cons_zero, List.set_cons_succ, i64_w, i32_w]
                                  rfl
                                refine pure_ (i := 1) (N := some 28) (v := ?_) (a' := ?_) #[true, true, false, false, false, false, false, false] rfl rfl (any_of HT_.out q_11) (fun _ _ _ h => h) (Or.inl ⟨by rfl, ?_⟩) ?_ ?_
                                rotate_left
                                · intro w'
                                  go_simp
                                  with_reducible rfl
                                rotate_left
                                · simp only [Act.put, List.setIfInBounds_toArray, List.set_cons_zero, List.set_cons_succ, i64_w, i32_w]
                                  rfl
                                refine pure_ (i := 3) (N := some 30) (v := ?_) (a' := ?_) #[true, true, false, true, false, false, false, false] rfl rfl (any_of HT_.out q_11) (fun _ _ _ h => h) (Or.inl ⟨by rfl, ?_⟩) ?_ ?_
                                rotate_left
                                · intro w'
                                  go_simp
                                  with_reducible rfl
                                rotate_left
                                · simp only [Act.put, List.setIfInBounds_toArray, List.set_cons_zero, List.set_cons_succ, i64_w, i32_w]
                                  rfl
                                refine pure_ (i := 4) (N := some 31) (v := ?_) (a' := ?_) #[true, true, false, true, true, false, false, false] rfl rfl (any_of HT_.out q_11) (fun _ _ _ h => h) (Or.inl ⟨by rfl, ?_⟩) ?_ ?_
                                rotate_left
                                · intro w'
                                  go_simp
                                  with_reducible rfl
                                rotate_left
                                · simp only [Act.put, List.setIfInBounds_toArray, List.set_cons_zero, List.set_cons_succ, i64_w, i32_w]
                                  rfl
                                refine one_ (i := 2) (N := some 29) #[true, true, true, true, true, false, false, false] rfl rfl (one_of HT_.out q_11) (by decide) (fun K hK => ?_)
                                refine goes_ Try.func41 q_11 rfl #[.slice (some ad160) (l0.take 251).length c0] (by rfl) rfl rfl q_7 ?_
                                with_reducible refine (record_sums.calls k _ _ (l0.take 251) t163 _ ?side1 ?side2 A11.out).mono ?_
                                (case side1 => repeat (first | exact (Kd.C_below HR162.out HB.out) | (with_reducible refine Kd.C_alloc ?_ _) | (with_reducible refine Kd.C_drewN ?_ _) | (with_reducible refine Kd.C_drew ?_)))
                                (case side2 => exact HC162.out)
                                rintro e w47 ⟨v164, rfl, ho0, hb⟩
                                refine ⟨_, rfl, ?_⟩
                                have n0_ := Aside0.mk (Kd.R_lower ho0 (below_size q_1))
                                have n1_ := Aside0.mk (blk_below (g := gb159) (o := .cells #[.int .i64 0, .int .i64 0, .slice none 0 0] 51 (0, 0)) q_5 hb)
                                have n2_ := Aside0.mk (below_step q_1 hb)
                                clear BK159
                                clear HB
                                have HO165 := n0_
                                have BK159 := n1_
                                have HB := n2_
                                clear n0_ n1_ n2_
                                (try clear hb)
                                (try clear hb2)
                                (try clear hk)
                                (try clear hi)
                                (try clear ho0)
                                obtain ⟨Ao48, co48, eo48⟩ := Kd.R_slice HO165.out
                                (first | subst eo48 | (injection eo48 with f1_ f2_ f3_; have f4_ := f1_.symm; have f5_ := f3_.symm; clear f1_ f2_ f3_; subst f4_; subst f5_))
                                refine hK.out _ _ trivial (fun hHeld => ?_)
                                clear hK K
                                refine norm_ (a' := ?_) ?_ ?_
                                rotate_left
                                · show Act.put _ (some 29) _ = _
                                  simp only [Act.put, List.setIfInBounds_toArray, List.set_cons_zero, List.set_cons_succ, i64_w, i32_w]
                                  rfl
                                refine one_ (i := 5) (N := some 32) #[true, true, true, true, true, true, false, false] rfl rfl (one_of HT_.out q_11) (by decide) (fun K hK => ?_)
                                refine goes_ Try.func42 q_11 rfl #[.slice Ao48 t163.length co48, .slice A46 ((l0.take 255).drop 251).length (c0 - 251)] (by rfl) rfl rfl q_6 ?_
                                with_reducible refine (slices_Equal_byte_byte.calls k _ _ t163 _ _ ((l0.take 255).drop 251) true _ ?side1 ?side2 ?side3 ?side4 A14.out).mono ?_
                                (case side1 => repeat (first | exact (Kd.R_reads' HO165.out).2.2 | (with_reducible refine Kd.C_alloc ?_ _) | (with_reducible refine Kd.C_drewN ?_ _) | (with_reducible refine Kd.C_drew ?_)))
                                (case side2 => exact (Kd.R_reads' HO165.out).2.1)
                                (case side3 => repeat (first | exact (Kd.C_below HR166.out HB.out) | (with_reducible refine Kd.C_alloc ?_ _) | (with_reducible refine Kd.C_drewN ?_ _) | (with_reducible refine Kd.C_drew ?_)))
                                (case side4 => exact HC166.out)
                                rintro e w' ⟨rfl, ⟨nd, rfl⟩⟩
                                refine ⟨_, rfl, ?_⟩
                                refine hK.out _ _ trivial (fun hHeld => ?_)
                                clear hK K
                                refine norm_ (a' := ?_) ?_ ?_
                                rotate_left
                                · show Act.put _ (some 32) _ = _
                                  simp only [Act.put, List.setIfInBounds_toArray, List.set_cons_zero, List.set_cons_succ, i64_w, i32_w]
                                  rfl
                                refine pure_ (i := 6) (N := some 33) (v := ?_) (a' := ?_) #[true, true, true, true, true, true, true, false] rfl rfl (any_of HT_.out q_11) (fun _ _ _ h => h) (Or.inl ⟨by rfl, ?_⟩) ?_ ?_
                                rotate_left
                                · intro w'
                                  go_simp
                                  with_reducible rfl
                                rotate_left
                                · simp only [Act.put, List.setIfInBounds_toArray, List.set_cons_zero, List.set_cons_succ, i64_w, i32_w]
                                  rfl
                                refine pure_ (i := 7) (N := some 26) (v := ?_) (a' := ?_) #[true, true, true, true, true, true, true, true] rfl rfl (any_of HT_.out q_11) (fun _ _ _ h => h) (Or.inl ⟨by rfl, ?_⟩) ?_ ?_
                                rotate_left
                                · intro w'
                                  go_simp
                                  with_reducible rfl
                                rotate_left
                                · simp only [Act.put, List.setIfInBounds_toArray, List.set_cons_zero, List.set_cons_succ, i64_w, i32_w]
                                  rfl
                                refine done_ (done_of HT_.out q_11) ?_
                                obtain ⟨i049, hi049, _, hsz49, _⟩ := info_parts info5
                                obtain ⟨hcut49, hA49, hC49⟩ := print_take_of (P := Try.prog) (Value.int .u8) 0 27 5 .i64 Try.underlying27 hi049 hsz49 (some ad160) c0 l0 8 q_13 (of_decide_eq_true q_3) HC0.out
                                have HR168 := Aside0.mk (Kd.C_of_reads (h1 := fun _ => rfl) (hA49 _ (Kd.reads_of_C HR0.out)))
                                have HC168 := Aside0.mk hC49
                                clear hA49 hC49 hi049 hsz49
                                try go_wp2_with (first | ((with_reducible refine gate_callee (f := 17) rfl ?_); refine goesL_ (some 38) rfl rfl Try.func17 q_11 rfl #[.slice (some ad160) (l0.take 8).length c0] rfl q_10 ?_; (with_reducible refine (word_Get.calls k _ _ (l0.take 8) t169 t170 _ ?side1 ?side2 A17.out).mono ?_); (case side1 => repeat (first | exact (Kd.C_below HR168.out q_1) | (with_reducible refine Kd.C_alloc ?_ _) | (with_reducible refine Kd.C_drewN ?_ _) | (with_reducible refine Kd.C_drew ?_))); (case side2 => exact HC168.out); rintro e w' ⟨rfl, ⟨nd, rfl⟩⟩; refine ⟨_, rfl, ?_⟩; (try (rw [drewN_self w47]; generalize hq_ : World.drewN w47 _ = w47; have n0_ : Aside0 (Kd.R (Kd.int .u8) 5 w47 w.heap.size (fun _ => True) (.slice Ao48 t163.length co48) t163) := ⟨by rw [← hq_]; exact q_8⟩; have n1_ : Aside0 (w47.heap[gb159]? = some (.cells #[.int .i64 0, .int .i64 0, .slice none 0 0] 51 (0, 0))) := ⟨by rw [← hq_]; exact q_5⟩; have n2_ : Aside0 (Below w.heap.size w w47) := ⟨by rw [← hq_]; exact q_1⟩; clear HO165 BK159 HB hq_; have HO165 := n0_; have BK159 := n1_; have HB := n2_; clear n0_ n1_ n2_)); obtain ⟨i050, hi050, _, hsz50, _⟩ := info_parts info5; obtain ⟨A50, hcut50, hA50, hC50⟩ := print_mid_of (P := Try.prog) (Value.int .u8) 0 27 5 .i64 .i64 Try.underlying27 hi050 hsz50 (some ad160) c0 l0 8 16 q_13 q_12 (of_decide_eq_true q_3) HC0.out; have HR171 := Aside0.mk (Kd.C_of_reads (h1 := fun _ => rfl) (hA50 _ (Kd.reads_of_C HR0.out))); have HC171 := Aside0.mk hC50; clear hA50 hC50 hi050 hsz50) | ((with_reducible refine gate_callee (f := 17) rfl ?_); refine goesL_ (some 44) rfl rfl Try.func17 q_11 rfl #[.slice A50 ((l0.take 16).drop 8).length (c0 - 8)] rfl q_9 ?_; (with_reducible refine (word_Get.calls k _ _ ((l0.take 16).drop 8) t172 t173 _ ?side1 ?side2 A20.out).mono ?_); (case side1 => repeat (first | exact (Kd.C_below HR171.out HB.out) | (with_reducible refine Kd.C_alloc ?_ _) | (with_reducible refine Kd.C_drewN ?_ _) | (with_reducible refine Kd.C_drew ?_))); (case side2 => exact HC171.out); rintro e w' ⟨rfl, ⟨nd, rfl⟩⟩; refine ⟨_, rfl, ?_⟩; (try (rw [drewN_self w47]; generalize hq_ : World.drewN w47 _ = w47; have n0_ : Aside0 (Kd.R (Kd.int .u8) 5 w47 w.heap.size (fun _ => True) (.slice Ao48 t163.length co48) t163) := ⟨by rw [← hq_]; exact q_8⟩; have n1_ : Aside0 (w47.heap[gb159]? = some (.cells #[.int .i64 0, .int .i64 0, .slice none 0 0] 51 (0, 0))) := ⟨by rw [← hq_]; exact q_5⟩; have n2_ : Aside0 (Below w.heap.size w w47) := ⟨by rw [← hq_]; exact q_1⟩; clear HO165 BK159 HB hq_; have HO165 := n0_; have BK159 := n1_; have HB := n2_; clear n0_ n1_ n2_)); have p174 : 0 ≤ (16 : Int) := q_13; have q174 : 16 < (l0.length : Int) := of_decide_eq_true q_3; obtain ⟨ad174, e174, hx174_0⟩ := Kd.at_int HR0.out 16 p174 q174; obtain rfl : ad160 = ad174 := (by injection e174); (try simp only [show (16 : Int).toNat = 16 from rfl, Nat.reduceMul, Nat.reduceEqDiff, Go.Addr.add, ↓reduceIte] at hx174_0); have qi174 : (16 < l0.length) = True := eq_true q_13; (try rw [show ((16 : Int)).toNat = 16 from rfl] at hx174_0); replace hx174_0 := (HB.out.cell (World.block_lt_of_cell? w _ hx174_0)).trans hx174_0; replace p174 := eq_true p174; replace q174 := eq_true q174; have hcz51_0 : w47.cell? ⟨gb159, 0, none⟩ = some (.int .i64 0) := (blk_cell BK159.out 0).trans rfl; have hcz51_1 : w47.cell? ⟨gb159, 1, none⟩ = some (.int .i64 0) := (blk_cell BK159.out 1).trans rfl; have hcz51_2 : w47.cell? ⟨gb159, 2, none⟩ = some (.slice none 0 0) := (blk_cell BK159.out 2).trans rfl; have hfz51_0 := blk_frozen BK159.out 0; have hfz51_1 := blk_frozen BK159.out 1; have hfz51_2 := blk_frozen BK159.out 2))
                                refine bodyPost_ret (results_ct rfl _ _ gb159 51 #[.int .i64 0, .int .i64 0, .slice none 0 0] (0, 0) _ rfl q_2 Try.underlying51 rfl q_11) rfl ?_
                                exact ⟨_, by first | rfl | (simp [errW_none, errW_some] <;> rfl) | (simp [*, errW_none, errW_some] <;> rfl), by first | exact Kd.R_nil _ _ _ _ _ | exact Kd.N_nil _ _ _ _ _ | exact Kd.V_nil _ _ _ _ _ | exact Kd.Q_nil _ _ _ _ _ | exact Kd.S_nil _ _ _ _ _, by repeat (first | (with_reducible first | exact HB.out | apply below_alloc | apply pw_below_drewN | apply below_drew1 | refine below_set ?_ GE159.out) | exact HB.out)⟩
                              · rw [if_neg c42] at H
                                have c42b0 : decide (234 < (wrap64 (rd l0 16))) = false := decide_eq_false c42
                                clear c42
                                obtain ⟨ji52, hji52⟩ : ∃ j_ : Int, (wrap64 (17 + (wrap64 (rd l0 16)))) = j_ := ⟨_, rfl⟩
                                replace H : (if 0 ≤ (ji52) then (if (ji52) ≤ 251 then ((slices_ContainsFunc_byte_byte.f ((l0.take 251).drop ((ji52) : Int).toNat)).bind fun t176 => (if t176 = true then (some (0, 0, ([] : List Int), 6)) else (if 17 ≤ (ji52) then (if (ji52) ≤ (l0.length : Int) then ((slices_Clone_byte_byte.f ((l0.take ((ji52) : Int).toNat).drop 17)).bind fun t178 => (some (wrap64 (t169), wrap64 (t172), t178, 0))) else (none)) else (none)))) else (none)) else (none)) = some (r1, r2, r3, r4) := by first | (rw [hji52] at H; exact H) | (simp only [hji52] at H ⊢; exact H)
                                (try rw [hji52] at A11)
                                (try rw [hji52] at A14)
                                (try rw [hji52] at A17)
                                (try rw [hji52] at A20)
                                have hji52w : (IntKind.i64.wrap (17 + (wrap64 (rd l0 16)))) = ji52 := (i64_w _).trans hji52
                                by_cases c53 : 0 ≤ (ji52)
                                · rw [if_pos c53] at H
                                  have c53b0 := eq_true c53
                                  have c53b1 : decide (0 ≤ (ji52)) = true := decide_eq_true c53
                                  clear c53
                                  by_cases c54 : (ji52) ≤ 251
                                  · rw [if_pos c54] at H
                                    have c54b0 := eq_true c54
                                    have c54b1 : decide ((ji52) ≤ 251) = true := decide_eq_true c54
                                    clear c54
                                    have c55b0 := eq_true (of_decide_eq_true q_3 : 251 ≤ (l0.length : Int))
                                    replace H := Option.bind_eq_some_iff.mp H
                                    obtain ⟨t176, A560, H⟩ := H
                                    replace H : (if t176 = true then (some (0, 0, ([] : List Int), 6)) else (if 17 ≤ (ji52) then (if (ji52) ≤ (l0.length : Int) then ((slices_Clone_byte_byte.f ((l0.take ((ji52) : Int).toNat).drop 17)).bind fun t178 => (some (wrap64 (t169), wrap64 (t172), t178, 0))) else (none)) else (none))) = some (r1, r2, r3, r4) := H
                                    have A56 := Aside0.mk A560
                                    clear A560
                                    by_cases c57 : t176 = true
                                    · subst c57
                                      have H1 : (some (0, 0, ([] : List Int), 6)) = some (r1, r2, r3, r4) := by rw [if_pos rfl] at H; exact H
                                      clear H
                                      have H := H1
                                      clear H1
                                      simp only [Option.some.injEq, Prod.mk.injEq] at H
                                      obtain ⟨rfl, rfl, rfl, rfl⟩ := H
                                      go_enter Try.func32, Try.ntmps32
                                      try go_wp2_with (first | ((with_reducible refine gate_dst (N := 2) rfl ?_); refine box_event ?hg (N := 2) ?hd (cs := #[.int .i64 0, .int .i64 0, .slice none 0 0]) (t := 51) ?hr ?_; (case hd => rfl); (case hg => rfl); (case hr => first | (go_simp; done) | (go_simp; rfl)); intro gb159 hg w58 hbox hb; have n0_ := Aside0.mk (below_step q_4 hb); have n1_ := Aside0.mk (hbox); have n2_ := Aside0.mk ((by rw [hg]; exact (below_size q_4) : w.heap.size ≤ gb159)); have n3_ := Aside0.mk ((by rw [hg]; exact (below_size q_4) : w.heap.size ≤ gb159)); clear HB; have HB := n0_; have BK159 := n1_; have GW159 := n2_; have GE159 := n3_; clear n0_ n1_ n2_ n3_; clear hb hbox hg; have p160 : 0 ≤ (255 : Int) := q_13; have q160 : 255 < (l0.length : Int) := of_decide_eq_true q_3; obtain ⟨ad160, e160, hx160_0⟩ := Kd.at_int HR0.out 255 p160 q160; cases e160; (try simp only [show (255 : Int).toNat = 255 from rfl, Nat.reduceMul, Nat.reduceEqDiff, Go.Addr.add, ↓reduceIte] at hx160_0); have qi160 : (255 < l0.length) = True := eq_true q_13; (try rw [show ((255 : Int)).toNat = 255 from rfl] at hx160_0); replace hx160_0 := (HB.out.cell (World.block_lt_of_cell? w _ hx160_0)).trans hx160_0; replace p160 := eq_true p160; replace q160 := eq_true q160; have p161 : 0 ≤ (255 : Int) := q_13; have q161 : 255 < (l0.length : Int) := of_decide_eq_true q_3; obtain ⟨ad161, e161, hx161_0⟩ := Kd.at_int HR0.out 255 p161 q161; obtain rfl : ad160 = ad161 := (by injection e161); (try simp only [show (255 : Int).toNat = 255 from rfl, Nat.reduceMul, Nat.reduceEqDiff, Go.Addr.add, ↓reduceIte] at hx161_0); have qi161 : (255 < l0.length) = True := eq_true q_13; (try rw [show ((255 : Int)).toNat = 255 from rfl] at hx161_0); replace hx161_0 := (HB.out.cell (World.block_lt_of_cell? w _ hx161_0)).trans hx161_0; replace p161 := eq_true p161; replace q161 := eq_true q161))
                                      have n0_ := Aside0.mk (blk_drew BK159.out)
                                      have n1_ := Aside0.mk (below_drew1 HB.out)
                                      clear BK159
                                      clear HB
                                      have BK159 := n0_
                                      have HB := n1_
                                      clear n0_ n1_
                                      obtain ⟨i060, hi060, _, hsz60, _⟩ := info_parts info5
                                      obtain ⟨hcut60, hA60, hC60⟩ := print_take_of (P := Try.prog) (Value.int .u8) 0 27 5 .i64 Try.underlying27 hi060 hsz60 (some ad160) c0 l0 251 q_13 (of_decide_eq_true q_3) HC0.out
                                      have HR162 := Aside0.mk (Kd.C_of_reads (h1 := fun _ => rfl) (hA60 _ (Kd.reads_of_C HR0.out)))
                                      have HC162 := Aside0.mk hC60
                                      clear hA60 hC60 hi060 hsz60
                                      obtain ⟨i061, hi061, _, hsz61, _⟩ := info_parts info5
                                      obtain ⟨A61, hcut61, hA61, hC61⟩ := print_mid_of (P := Try.prog) (Value.int .u8) 0 27 5 .i64 .i64 Try.underlying27 hi061 hsz61 (some ad160) c0 l0 251 255 q_13 q_12 (of_decide_eq_true q_3) HC0.out
                                      have HR166 := Aside0.mk (Kd.C_of_reads (h1 := fun _ => rfl) (hA61 _ (Kd.reads_of_C HR0.out)))
                                      have HC166 := Aside0.mk hC61
                                      clear hA61 hC61 hi061 hsz61
                                      refine start_ (n := 8) (S := fun w' => True) (ds := []) #[false, false, false, false, false, false, false, false] q_11 rfl rfl trivial (fun hHeld => ?_); refine with_tabW record_Read.tab7 record_Read.bits7 (fun HT_ HW_ => ?_)
                                      generalize w58.drew = w59 at BK159 HB HR162 HR166 hHeld ⊢
                                      refine pure_ (i := 0) (N := some 27) (v := ?_) (a' := ?_) #[true, false, false, false, false, false, false, false] rfl rfl (any_of HT_.out q_11) (fun _ _ _ h => h) (Or.inl ⟨by rfl, ?_⟩) ?_ ?_
                                      rotate_left
                                      · intro w'
                                        go_simp
                                        with_reducible rfl
                                      rotate_left
                                      · simp only [Act.put, List.setIfInBounds_toArray, List.set_cons_zero, List.set_cons_succ, i64_w, i32_w]
                                        rfl
                                      refine pure_ (i := 1) (N := some 28) (v := ?_) (a' := ?_) #[true, true, false, false, false, false, false, false] rfl rfl (any_of HT_.out q_11) (fun _ _ _ h => h) (Or.inl ⟨by rfl, ?_⟩) ?_ ?_
                                      rotate_left
                                      · intro w'
                                        go_simp
                                        with_reducible rfl
                                      rotate_left
                                      · simp only [Act.put, List.setIfInBounds_toArray, List.set_cons_zero, List.set_cons_succ, i64_w, i32_w]
                                        rfl
                                      refine pure_ (i := 3) (N := some 30) (v := ?_) (a' := ?_) #[true, true, false, true, false, false, false, false] rfl rfl (any_of HT_.out q_11) (fun _ _ _ h => h) (Or.inl ⟨by rfl, ?_⟩) ?_ ?_
                                      rotate_left
                                      · intro w'
                                        go_simp
                                        with_reducible rfl
                                      rotate_left
                                      · simp only [Act.put, List.setIfInBounds_toArray, List.set_cons_zero, List.set_cons_succ, i64_w, i32_w]
                                        rfl
                                      refine pure_ (i := 4) (N := some 31) (v := ?_) (a' := ?_) #[true, true, false, true, true, false, false, false] rfl rfl (any_of HT_.out q_11) (fun _ _ _ h => h) (Or.inl ⟨by rfl, ?_⟩) ?_ ?_
                                      rotate_left
                                      · intro w'
                                        go_simp
                                        with_reducible rfl
                                      rotate_left
                                      · simp only [Act.put, List.setIfInBounds_toArray, List.set_cons_zero, List.set_cons_succ, i64_w, i32_w]
                                        rfl
                                      refine one_ (i := 2) (N := some 29) #[true, true, true, true, true, false, false, false] rfl rfl (one_of HT_.out q_11) (by decide) (fun K hK => ?_)
                                      refine goes_ Try.func41 q_11 rfl #[.slice (some ad160) (l0.take 251).length c0] (by rfl) rfl rfl q_7 ?_
                                      with_reducible refine (record_sums.calls k _ _ (l0.take 251) t163 _ ?side1 ?side2 A11.out).mono ?_
                                      (case side1 => repeat (first | exact (Kd.C_below HR162.out HB.out) | (with_reducible refine Kd.C_alloc ?_ _) | (with_reducible refine Kd.C_drewN ?_ _) | (with_reducible refine Kd.C_drew ?_)))
                                      (case side2 => exact HC162.out)
                                      rintro e w62 ⟨v164, rfl, ho0, hb⟩
                                      refine ⟨_, rfl, ?_⟩
                                      have n0_ := Aside0.mk (Kd.R_lower ho0 (below_size q_1))
                                      have n1_ := Aside0.mk (blk_below (g := gb159) (o := .cells #[.int .i64 0, .int .i64 0, .slice none 0 0] 51 (0, 0)) q_5 hb)
                                      have n2_ := Aside0.mk (below_step q_1 hb)
                                      clear BK159
                                      clear HB
                                      have HO165 := n0_
                                      have BK159 := n1_
                                      have HB := n2_
                                      clear n0_ n1_ n2_
                                      (try clear hb)
                                      (try clear hb2)
                                      (try clear hk)
                                      (try clear hi)
                                      (try clear ho0)
                                      obtain ⟨Ao63, co63, eo63⟩ := Kd.R_slice HO165.out
                                      (first | subst eo63 | (injection eo63 with f1_ f2_ f3_; have f4_ := f1_.symm; have f5_ := f3_.symm; clear f1_ f2_ f3_; subst f4_; subst f5_))
                                      refine hK.out _ _ trivial (fun hHeld => ?_)
                                      clear hK K
                                      refine norm_ (a' := ?_) ?_ ?_
                                      rotate_left
                                      · show Act.put _ (some 29) _ = _
                                        simp only [Act.put, List.setIfInBounds_toArray, List.set_cons_zero, List.set_cons_succ, i64_w, i32_w]
                                        rfl
                                      refine one_ (i := 5) (N := some 32) #[true, true, true, true, true, true, false, false] rfl rfl (one_of HT_.out q_11) (by decide) (fun K hK => ?_)
                                      refine goes_ Try.func42 q_11 rfl #[.slice Ao63 t163.length co63, .slice A61 ((l0.take 255).drop 251).length (c0 - 251)] (by rfl) rfl rfl q_6 ?_
                                      with_reducible refine (slices_Equal_byte_byte.calls k _ _ t163 _ _ ((l0.take 255).drop 251) true _ ?side1 ?side2 ?side3 ?side4 A14.out).mono ?_
                                      (case side1 => repeat (first | exact (Kd.R_reads' HO165.out).2.2 | (with_reducible refine Kd.C_alloc ?_ _) | (with_reducible refine Kd.C_drewN ?_ _) | (with_reducible refine Kd.C_drew ?_)))
                                      (case side2 => exact (Kd.R_reads' HO165.out).2.1)
                                      (case side3 => repeat (first | exact (Kd.C_below HR166.out HB.out) | (with_reducible refine Kd.C_alloc ?_ _) | (with_reducible refine Kd.C_drewN ?_ _) | (with_reducible refine Kd.C_drew ?_)))
                                      (case side4 => exact HC166.out)
                                      rintro e w' ⟨rfl, ⟨nd, rfl⟩⟩
                                      refine ⟨_, rfl, ?_⟩
                                      refine hK.out _ _ trivial (fun hHeld => ?_)
                                      clear hK K
                                      refine norm_ (a' := ?_) ?_ ?_
                                      rotate_left
                                      · show Act.put _ (some 32) _ = _
                                        simp only [Act.put, List.setIfInBounds_toArray, List.set_cons_zero, List.set_cons_succ, i64_w, i32_w]
                                        rfl
                                      refine pure_ (i := 6) (N := some 33) (v := ?_) (a' := ?_) #[true, true, true, true, true, true, true, false] rfl rfl (any_of HT_.out q_11) (fun _ _ _ h => h) (Or.inl ⟨by rfl, ?_⟩) ?_ ?_
                                      rotate_left
                                      · intro w'
                                        go_simp
                                        with_reducible rfl
                                      rotate_left
                                      · simp only [Act.put, List.setIfInBounds_toArray, List.set_cons_zero, List.set_cons_succ, i64_w, i32_w]
                                        rfl
                                      refine pure_ (i := 7) (N := some 26) (v := ?_) (a' := ?_) #[true, true, true, true, true, true, true, true] rfl rfl (any_of HT_.out q_11) (fun _ _ _ h => h) (Or.inl ⟨by rfl, ?_⟩) ?_ ?_
                                      rotate_left
                                      · intro w'
                                        go_simp
                                        with_reducible rfl
                                      rotate_left
                                      · simp only [Act.put, List.setIfInBounds_toArray, List.set_cons_zero, List.set_cons_succ, i64_w, i32_w]
                                        rfl
                                      refine done_ (done_of HT_.out q_11) ?_
                                      obtain ⟨i064, hi064, _, hsz64, _⟩ := info_parts info5
                                      obtain ⟨hcut64, hA64, hC64⟩ := print_take_of (P := Try.prog) (Value.int .u8) 0 27 5 .i64 Try.underlying27 hi064 hsz64 (some ad160) c0 l0 8 q_13 (of_decide_eq_true q_3) HC0.out
                                      have HR168 := Aside0.mk (Kd.C_of_reads (h1 := fun _ => rfl) (hA64 _ (Kd.reads_of_C HR0.out)))
                                      have HC168 := Aside0.mk hC64
                                      clear hA64 hC64 hi064 hsz64
                                      try go_wp2_with (first | ((with_reducible refine gate_callee (f := 17) rfl ?_); refine goesL_ (some 38) rfl rfl Try.func17 q_11 rfl #[.slice (some ad160) (l0.take 8).length c0] rfl q_10 ?_; (with_reducible refine (word_Get.calls k _ _ (l0.take 8) t169 t170 _ ?side1 ?side2 A17.out).mono ?_); (case side1 => repeat (first | exact (Kd.C_below HR168.out q_1) | (with_reducible refine Kd.C_alloc ?_ _) | (with_reducible refine Kd.C_drewN ?_ _) | (with_reducible refine Kd.C_drew ?_))); (case side2 => exact HC168.out); rintro e w' ⟨rfl, ⟨nd, rfl⟩⟩; refine ⟨_, rfl, ?_⟩; (try (rw [drewN_self w62]; generalize hq_ : World.drewN w62 _ = w62; have n0_ : Aside0 (Kd.R (Kd.int .u8) 5 w62 w.heap.size (fun _ => True) (.slice Ao63 t163.length co63) t163) := ⟨by rw [← hq_]; exact q_8⟩; have n1_ : Aside0 (w62.heap[gb159]? = some (.cells #[.int .i64 0, .int .i64 0, .slice none 0 0] 51 (0, 0))) := ⟨by rw [← hq_]; exact q_5⟩; have n2_ : Aside0 (Below w.heap.size w w62) := ⟨by rw [← hq_]; exact q_1⟩; clear HO165 BK159 HB hq_; have HO165 := n0_; have BK159 := n1_; have HB := n2_; clear n0_ n1_ n2_)); obtain ⟨i065, hi065, _, hsz65, _⟩ := info_parts info5; obtain ⟨A65, hcut65, hA65, hC65⟩ := print_mid_of (P := Try.prog) (Value.int .u8) 0 27 5 .i64 .i64 Try.underlying27 hi065 hsz65 (some ad160) c0 l0 8 16 q_13 q_12 (of_decide_eq_true q_3) HC0.out; have HR171 := Aside0.mk (Kd.C_of_reads (h1 := fun _ => rfl) (hA65 _ (Kd.reads_of_C HR0.out))); have HC171 := Aside0.mk hC65; clear hA65 hC65 hi065 hsz65) | ((with_reducible refine gate_callee (f := 17) rfl ?_); refine goesL_ (some 44) rfl rfl Try.func17 q_11 rfl #[.slice A65 ((l0.take 16).drop 8).length (c0 - 8)] rfl q_9 ?_; (with_reducible refine (word_Get.calls k _ _ ((l0.take 16).drop 8) t172 t173 _ ?side1 ?side2 A20.out).mono ?_); (case side1 => repeat (first | exact (Kd.C_below HR171.out HB.out) | (with_reducible refine Kd.C_alloc ?_ _) | (with_reducible refine Kd.C_drewN ?_ _) | (with_reducible refine Kd.C_drew ?_))); (case side2 => exact HC171.out); rintro e w' ⟨rfl, ⟨nd, rfl⟩⟩; refine ⟨_, rfl, ?_⟩; (try (rw [drewN_self w62]; generalize hq_ : World.drewN w62 _ = w62; have n0_ : Aside0 (Kd.R (Kd.int .u8) 5 w62 w.heap.size (fun _ => True) (.slice Ao63 t163.length co63) t163) := ⟨by rw [← hq_]; exact q_8⟩; have n1_ : Aside0 (w62.heap[gb159]? = some (.cells #[.int .i64 0, .int .i64 0, .slice none 0 0] 51 (0, 0))) := ⟨by rw [← hq_]; exact q_5⟩; have n2_ : Aside0 (Below w.heap.size w w62) := ⟨by rw [← hq_]; exact q_1⟩; clear HO165 BK159 HB hq_; have HO165 := n0_; have BK159 := n1_; have HB := n2_; clear n0_ n1_ n2_)); have p174 : 0 ≤ (16 : Int) := q_13; have q174 : 16 < (l0.length : Int) := of_decide_eq_true q_3; obtain ⟨ad174, e174, hx174_0⟩ := Kd.at_int HR0.out 16 p174 q174; obtain rfl : ad160 = ad174 := (by injection e174); (try simp only [show (16 : Int).toNat = 16 from rfl, Nat.reduceMul, Nat.reduceEqDiff, Go.Addr.add, ↓reduceIte] at hx174_0); have qi174 : (16 < l0.length) = True := eq_true q_13; (try rw [show ((16 : Int)).toNat = 16 from rfl] at hx174_0); replace hx174_0 := (HB.out.cell (World.block_lt_of_cell? w _ hx174_0)).trans hx174_0; replace p174 := eq_true p174; replace q174 := eq_true q174; obtain ⟨i066, hi066, _, hsz66, _⟩ := info_parts info5; obtain ⟨A66, hcut66, hA66, hC66⟩ := print_mid_of (P := Try.prog) (Value.int .u8) 0 27 5 .i64 .i64 Try.underlying27 hi066 hsz66 (some ad160) c0 l0 (ji52) 251 (of_decide_eq_true q_3) q_12 (of_decide_eq_true q_3) HC0.out; have HR175 := Aside0.mk (Kd.C_of_reads (h1 := fun _ => rfl) (hA66 _ (Kd.reads_of_C HR0.out))); have HC175 := Aside0.mk hC66; clear hA66 hC66 hi066 hsz66) | (go_at_call 43; refine calls_of_args (args' := #[.slice A66 ((l0.take 251).drop ((ji52) : Int).toNat).length (c0 - (ji52).toNat), .func (.func 44) #[] #[]]) (by first | rfl | (simp only [List.length_take, List.length_drop, Int.toNat_natCast]; done) | (simp; done)) ?_; (with_reducible refine (slices_ContainsFunc_byte_byte.calls _ _ ((l0.take 251).drop ((ji52) : Int).toNat) true _ ?side1 ?side2 A56.out).mono ?_); (case side1 => repeat (first | exact (Kd.C_below HR175.out HB.out) | (with_reducible refine Kd.C_alloc ?_ _) | (with_reducible refine Kd.C_drewN ?_ _) | (with_reducible refine Kd.C_drew ?_))); (case side2 => exact HC175.out); rintro e w67 ⟨rfl, hb⟩; have n0_ := Aside0.mk (Kd.R_below q_8 hb); have n1_ := Aside0.mk (blk_below (g := gb159) (o := .cells #[.int .i64 0, .int .i64 0, .slice none 0 0] 51 (0, 0)) q_5 hb); have n2_ := Aside0.mk (below_step q_1 hb); clear HO165; clear BK159; clear HB; have HO165 := n0_; have BK159 := n1_; have HB := n2_; clear n0_ n1_ n2_; (try clear hb); (try clear hb2); (try clear hk); (try clear hi); have hcz68_0 : w67.cell? ⟨gb159, 0, none⟩ = some (.int .i64 0) := (blk_cell BK159.out 0).trans rfl; have hcz68_1 : w67.cell? ⟨gb159, 1, none⟩ = some (.int .i64 0) := (blk_cell BK159.out 1).trans rfl; have hcz68_2 : w67.cell? ⟨gb159, 2, none⟩ = some (.slice none 0 0) := (blk_cell BK159.out 2).trans rfl; have hfz68_0 := blk_frozen BK159.out 0; have hfz68_1 := blk_frozen BK159.out 1; have hfz68_2 := blk_frozen BK159.out 2))
                                      refine bodyPost_ret (results_ct rfl _ _ gb159 51 #[.int .i64 0, .int .i64 0, .slice none 0 0] (0, 0) _ rfl q_2 Try.underlying51 rfl q_11) rfl ?_
                                      exact ⟨_, by first | rfl | (simp [errW_none, errW_some] <;> rfl) | (simp only [← hji52]; first | rfl | (simp [errW_none, errW_some] <;> rfl)) | (simp [*, errW_none, errW_some] <;> rfl), by first | exact Kd.R_nil _ _ _ _ _ | exact Kd.N_nil _ _ _ _ _ | exact Kd.V_nil _ _ _ _ _ | exact Kd.Q_nil _ _ _ _ _ | exact Kd.S_nil _ _ _ _ _, by repeat (first | (with_reducible first | exact HB.out | apply below_alloc | apply pw_below_drewN | apply below_drew1 | refine below_set ?_ GE159.out) | exact HB.out)⟩
                                    · replace c57 := Bool.eq_false_iff.mpr c57
                                      subst c57
                                      have H1 : (if 17 ≤ (ji52) then (if (ji52) ≤ (l0.length : Int) then ((slices_Clone_byte_byte.f ((l0.take ((ji52) : Int).toNat).drop 17)).bind fun t178 => (some (wrap64 (t169), wrap64 (t172), t178, 0))) else (none)) else (none)) = some (r1, r2, r3, r4) := by rw [if_neg (show ¬ (false = true) by decide)] at H; exact H
                                      clear H
                                      have H := H1
                                      clear H1
                                      by_cases c69 : 17 ≤ (ji52)
                                      · rw [if_pos c69] at H
                                        have c69b0 := eq_true c69
                                        have c69b1 : decide (17 ≤ (ji52)) = true := decide_eq_true c69
                                        clear c69
                                        by_cases c70 : (ji52) ≤ (l0.length : Int)
                                        · rw [if_pos c70] at H
                                          have c70b0 := eq_true c70
                                          have c70b1 : decide ((ji52) ≤ (l0.length : Int)) = true := decide_eq_true c70
                                          clear c70
                                          replace H := Option.bind_eq_some_iff.mp H
                                          obtain ⟨t178, A710, H⟩ := H
                                          replace H : (some (wrap64 (t169), wrap64 (t172), t178, 0)) = some (r1, r2, r3, r4) := H
                                          have A71 := Aside0.mk A710
                                          clear A710
                                          simp only [Option.some.injEq, Prod.mk.injEq] at H
                                          obtain ⟨rfl, rfl, rfl, rfl⟩ := H
                                          go_enter Try.func32, Try.ntmps32
                                          try go_wp2_with (first | ((with_reducible refine gate_dst (N := 2) rfl ?_); refine box_event ?hg (N := 2) ?hd (cs := #[.int .i64 0, .int .i64 0, .slice none 0 0]) (t := 51) ?hr ?_; (case hd => rfl); (case hg => rfl); (case hr => first | (go_simp; done) | (go_simp; rfl)); intro gb159 hg w72 hbox hb; have n0_ := Aside0.mk (below_step q_4 hb); have n1_ := Aside0.mk (hbox); have n2_ := Aside0.mk ((by rw [hg]; exact (below_size q_4) : w.heap.size ≤ gb159)); have n3_ := Aside0.mk ((by rw [hg]; exact (below_size q_4) : w.heap.size ≤ gb159)); clear HB; have HB := n0_; have BK159 := n1_; have GW159 := n2_; have GE159 := n3_; clear n0_ n1_ n2_ n3_; clear hb hbox hg; have p160 : 0 ≤ (255 : Int) := q_13; have q160 : 255 < (l0.length : Int) := of_decide_eq_true q_3; obtain ⟨ad160, e160, hx160_0⟩ := Kd.at_int HR0.out 255 p160 q160; cases e160; (try simp only [show (255 : Int).toNat = 255 from rfl, Nat.reduceMul, Nat.reduceEqDiff, Go.Addr.add, ↓reduceIte] at hx160_0); have qi160 : (255 < l0.length) = True := eq_true q_13; (try rw [show ((255 : Int)).toNat = 255 from rfl] at hx160_0); replace hx160_0 := (HB.out.cell (World.block_lt_of_cell? w _ hx160_0)).trans hx160_0; replace p160 := eq_true p160; replace q160 := eq_true q160; have p161 : 0 ≤ (255 : Int) := q_13; have q161 : 255 < (l0.length : Int) := of_decide_eq_true q_3; obtain ⟨ad161, e161, hx161_0⟩ := Kd.at_int HR0.out 255 p161 q161; obtain rfl : ad160 = ad161 := (by injection e161); (try simp only [show (255 : Int).toNat = 255 from rfl, Nat.reduceMul, Nat.reduceEqDiff, Go.Addr.add, ↓reduceIte] at hx161_0); have qi161 : (255 < l0.length) = True := eq_true q_13; (try rw [show ((255 : Int)).toNat = 255 from rfl] at hx161_0); replace hx161_0 := (HB.out.cell (World.block_lt_of_cell? w _ hx161_0)).trans hx161_0; replace p161 := eq_true p161; replace q161 := eq_true q161))
                                          have n0_ := Aside0.mk (blk_drew BK159.out)
                                          have n1_ := Aside0.mk (below_drew1 HB.out)
                                          clear BK159
                                          clear HB
                                          have BK159 := n0_
                                          have HB := n1_
                                          clear n0_ n1_
                                          obtain ⟨i074, hi074, _, hsz74, _⟩ := info_parts info5
                                          obtain ⟨hcut74, hA74, hC74⟩ := print_take_of (P := Try.prog) (Value.int .u8) 0 27 5 .i64 Try.underlying27 hi074 hsz74 (some ad160) c0 l0 251 q_13 (of_decide_eq_true q_3) HC0.out
                                          have HR162 := Aside0.mk (Kd.C_of_reads (h1 := fun _ => rfl) (hA74 _ (Kd.reads_of_C HR0.out)))
                                          have HC162 := Aside0.mk hC74
                                          clear hA74 hC74 hi074 hsz74
                                          obtain ⟨i075, hi075, _, hsz75, _⟩ := info_parts info5
                                          obtain ⟨A75, hcut75, hA75, hC75⟩ := print_mid_of (P := Try.prog) (Value.int .u8) 0 27 5 .i64 .i64 Try.underlying27 hi075 hsz75 (some ad160) c0 l0 251 255 q_13 q_12 (of_decide_eq_true q_3) HC0.out
                                          have HR166 := Aside0.mk (Kd.C_of_reads (h1 := fun _ => rfl) (hA75 _ (Kd.reads_of_C HR0.out)))
                                          have HC166 := Aside0.mk hC75
                                          clear hA75 hC75 hi075 hsz75
                                          refine start_ (n := 8) (S := fun w' => True) (ds := []) #[false, false, false, false, false, false, false, false] q_11 rfl rfl trivial (fun hHeld => ?_); refine with_tabW record_Read.tab7 record_Read.bits7 (fun HT_ HW_ => ?_)
                                          generalize w72.drew = w73 at BK159 HB HR162 HR166 hHeld ⊢
                                          refine pure_ (i := 0) (N := some 27) (v := ?_) (a' := ?_) #[true, false, false, false, false, false, false, false] rfl rfl (any_of HT_.out q_11) (fun _ _ _ h => h) (Or.inl ⟨by rfl, ?_⟩) ?_ ?_
                                          rotate_left
                                          · intro w'
                                            go_simp
                                            with_reducible rfl
                                          rotate_left
                                          · simp only [Act.put, List.setIfInBounds_toArray, List.set_cons_zero, List.set_cons_succ, i64_w, i32_w]
                                            rfl
                                          refine pure_ (i := 1) (N := some 28) (v := ?_) (a' := ?_) #[true, true, false, false, false, false, false, false] rfl rfl (any_of HT_.out q_11) (fun _ _ _ h => h) (Or.inl ⟨by rfl, ?_⟩) ?_ ?_
                                          rotate_left
                                          · intro w'
                                            go_simp
                                            with_reducible rfl
                                          rotate_left
                                          · simp only [Act.put, List.setIfInBounds_toArray, List.set_cons_zero, List.set_cons_succ, i64_w, i32_w]
                                            rfl
                                          refine pure_ (i := 3) (N := some 30) (v := ?_) (a' := ?_) #[true, true, false, true, false, false, false, false] rfl rfl (any_of HT_.out q_11) (fun _ _ _ h => h) (Or.inl ⟨by rfl, ?_⟩) ?_ ?_
                                          rotate_left
                                          · intro w'
                                            go_simp
                                            with_reducible rfl
                                          rotate_left
                                          · simp only [Act.put, List.setIfInBounds_toArray, List.set_cons_zero, List.set_cons_succ, i64_w, i32_w]
                                            rfl
                                          refine pure_ (i := 4) (N := some 31) (v := ?_) (a' := ?_) #[true, true, false, true, true, false, false, false] rfl rfl (any_of HT_.out q_11) (fun _ _ _ h => h) (Or.inl ⟨by rfl, ?_⟩) ?_ ?_
                                          rotate_left
                                          · intro w'
                                            go_simp
                                            with_reducible rfl
                                          rotate_left
                                          · simp only [Act.put, List.setIfInBounds_toArray, List.set_cons_zero, List.set_cons_succ, i64_w, i32_w]
                                            rfl
                                          refine one_ (i := 2) (N := some 29) #[true, true, true, true, true, false, false, false] rfl rfl (one_of HT_.out q_11) (by decide) (fun K hK => ?_)
                                          refine goes_ Try.func41 q_11 rfl #[.slice (some ad160) (l0.take 251).length c0] (by rfl) rfl rfl q_7 ?_
                                          with_reducible refine (record_sums.calls k _ _ (l0.take 251) t163 _ ?side1 ?side2 A11.out).mono ?_
                                          (case side1 => repeat (first | exact (Kd.C_below HR162.out HB.out) | (with_reducible refine Kd.C_alloc ?_ _) | (with_reducible refine Kd.C_drewN ?_ _) | (with_reducible refine Kd.C_drew ?_)))
                                          (case side2 => exact HC162.out)
                                          rintro e w76 ⟨v164, rfl, ho0, hb⟩
                                          refine ⟨_, rfl, ?_⟩
                                          have n0_ := Aside0.mk (Kd.R_lower ho0 (below_size q_1))
                                          have n1_ := Aside0.mk (blk_below (g := gb159) (o := .cells #[.int .i64 0, .int .i64 0, .slice none 0 0] 51 (0, 0)) q_5 hb)
                                          have n2_ := Aside0.mk (below_step q_1 hb)
                                          clear BK159
                                          clear HB
                                          have HO165 := n0_
                                          have BK159 := n1_
                                          have HB := n2_
                                          clear n0_ n1_ n2_
                                          (try clear hb)
                                          (try clear hb2)
                                          (try clear hk)
                                          (try clear hi)
                                          (try clear ho0)
                                          obtain ⟨Ao77, co77, eo77⟩ := Kd.R_slice HO165.out
                                          (first | subst eo77 | (injection eo77 with f1_ f2_ f3_; have f4_ := f1_.symm; have f5_ := f3_.symm; clear f1_ f2_ f3_; subst f4_; subst f5_))
                                          refine hK.out _ _ trivial (fun hHeld => ?_)
                                          clear hK K
                                          refine norm_ (a' := ?_) ?_ ?_
                                          rotate_left
                                          · show Act.put _ (some 29) _ = _
                                            simp only [Act.put, List.setIfInBounds_toArray, List.set_cons_zero, List.set_cons_succ, i64_w, i32_w]
                                            rfl
                                          refine one_ (i := 5) (N := some 32) #[true, true, true, true, true, true, false, false] rfl rfl (one_of HT_.out q_11) (by decide) (fun K hK => ?_)
                                          refine goes_ Try.func42 q_11 rfl #[.slice Ao77 t163.length co77, .slice A75 ((l0.take 255).drop 251).length (c0 - 251)] (by rfl) rfl rfl q_6 ?_
                                          with_reducible refine (slices_Equal_byte_byte.calls k _ _ t163 _ _ ((l0.take 255).drop 251) true _ ?side1 ?side2 ?side3 ?side4 A14.out).mono ?_
                                          (case side1 => repeat (first | exact (Kd.R_reads' HO165.out).2.2 | (with_reducible refine Kd.C_alloc ?_ _) | (with_reducible refine Kd.C_drewN ?_ _) | (with_reducible refine Kd.C_drew ?_)))
                                          (case side2 => exact (Kd.R_reads' HO165.out).2.1)
                                          (case side3 => repeat (first | exact (Kd.C_below HR166.out HB.out) | (with_reducible refine Kd.C_alloc ?_ _) | (with_reducible refine Kd.C_drewN ?_ _) | (with_reducible refine Kd.C_drew ?_)))
                                          (case side4 => exact HC166.out)
                                          rintro e w' ⟨rfl, ⟨nd, rfl⟩⟩
                                          refine ⟨_, rfl, ?_⟩
                                          refine hK.out _ _ trivial (fun hHeld => ?_)
                                          clear hK K
                                          refine norm_ (a' := ?_) ?_ ?_
                                          rotate_left
                                          · show Act.put _ (some 32) _ = _
                                            simp only [Act.put, List.setIfInBounds_toArray, List.set_cons_zero, List.set_cons_succ, i64_w, i32_w]
                                            rfl
                                          refine pure_ (i := 6) (N := some 33) (v := ?_) (a' := ?_) #[true, true, true, true, true, true, true, false] rfl rfl (any_of HT_.out q_11) (fun _ _ _ h => h) (Or.inl ⟨by rfl, ?_⟩) ?_ ?_
                                          rotate_left
                                          · intro w'
                                            go_simp
                                            with_reducible rfl
                                          rotate_left
                                          · simp only [Act.put, List.setIfInBounds_toArray, List.set_cons_zero, List.set_cons_succ, i64_w, i32_w]
                                            rfl
                                          refine pure_ (i := 7) (N := some 26) (v := ?_) (a' := ?_) #[true, true, true, true, true, true, true, true] rfl rfl (any_of HT_.out q_11) (fun _ _ _ h => h) (Or.inl ⟨by rfl, ?_⟩) ?_ ?_
                                          rotate_left
                                          · intro w'
                                            go_simp
                                            with_reducible rfl
                                          rotate_left
                                          · simp only [Act.put, List.setIfInBounds_toArray, List.set_cons_zero, List.set_cons_succ, i64_w, i32_w]
                                            rfl
                                          refine done_ (done_of HT_.out q_11) ?_
                                          obtain ⟨i078, hi078, _, hsz78, _⟩ := info_parts info5
                                          obtain ⟨hcut78, hA78, hC78⟩ := print_take_of (P := Try.prog) (Value.int .u8) 0 27 5 .i64 Try.underlying27 hi078 hsz78 (some ad160) c0 l0 8 q_13 (of_decide_eq_true q_3) HC0.out
                                          have HR168 := Aside0.mk (Kd.C_of_reads (h1 := fun _ => rfl) (hA78 _ (Kd.reads_of_C HR0.out)))
                                          have HC168 := Aside0.mk hC78
                                          clear hA78 hC78 hi078 hsz78
                                          try go_wp2_with (first | ((with_reducible refine gate_callee (f := 17) rfl ?_); refine goesL_ (some 38) rfl rfl Try.func17 q_11 rfl #[.slice (some ad160) (l0.take 8).length c0] rfl q_10 ?_; (with_reducible refine (word_Get.calls k _ _ (l0.take 8) t169 t170 _ ?side1 ?side2 A17.out).mono ?_); (case side1 => repeat (first | exact (Kd.C_below HR168.out q_1) | (with_reducible refine Kd.C_alloc ?_ _) | (with_reducible refine Kd.C_drewN ?_ _) | (with_reducible refine Kd.C_drew ?_))); (case side2 => exact HC168.out); rintro e w' ⟨rfl, ⟨nd, rfl⟩⟩; refine ⟨_, rfl, ?_⟩; (try (rw [drewN_self w76]; generalize hq_ : World.drewN w76 _ = w76; have n0_ : Aside0 (Kd.R (Kd.int .u8) 5 w76 w.heap.size (fun _ => True) (.slice Ao77 t163.length co77) t163) := ⟨by rw [← hq_]; exact q_8⟩; have n1_ : Aside0 (w76.heap[gb159]? = some (.cells #[.int .i64 0, .int .i64 0, .slice none 0 0] 51 (0, 0))) := ⟨by rw [← hq_]; exact q_5⟩; have n2_ : Aside0 (Below w.heap.size w w76) := ⟨by rw [← hq_]; exact q_1⟩; clear HO165 BK159 HB hq_; have HO165 := n0_; have BK159 := n1_; have HB := n2_; clear n0_ n1_ n2_)); obtain ⟨i079, hi079, _, hsz79, _⟩ := info_parts info5; obtain ⟨A79, hcut79, hA79, hC79⟩ := print_mid_of (P := Try.prog) (Value.int .u8) 0 27 5 .i64 .i64 Try.underlying27 hi079 hsz79 (some ad160) c0 l0 8 16 q_13 q_12 (of_decide_eq_true q_3) HC0.out; have HR171 := Aside0.mk (Kd.C_of_reads (h1 := fun _ => rfl) (hA79 _ (Kd.reads_of_C HR0.out))); have HC171 := Aside0.mk hC79; clear hA79 hC79 hi079 hsz79) | ((with_reducible refine gate_callee (f := 17) rfl ?_); refine goesL_ (some 44) rfl rfl Try.func17 q_11 rfl #[.slice A79 ((l0.take 16).drop 8).length (c0 - 8)] rfl q_9 ?_; (with_reducible refine (word_Get.calls k _ _ ((l0.take 16).drop 8) t172 t173 _ ?side1 ?side2 A20.out).mono ?_); (case side1 => repeat (first | exact (Kd.C_below HR171.out HB.out) | (with_reducible refine Kd.C_alloc ?_ _) | (with_reducible refine Kd.C_drewN ?_ _) | (with_reducible refine Kd.C_drew ?_))); (case side2 => exact HC171.out); rintro e w' ⟨rfl, ⟨nd, rfl⟩⟩; refine ⟨_, rfl, ?_⟩; (try (rw [drewN_self w76]; generalize hq_ : World.drewN w76 _ = w76; have n0_ : Aside0 (Kd.R (Kd.int .u8) 5 w76 w.heap.size (fun _ => True) (.slice Ao77 t163.length co77) t163) := ⟨by rw [← hq_]; exact q_8⟩; have n1_ : Aside0 (w76.heap[gb159]? = some (.cells #[.int .i64 0, .int .i64 0, .slice none 0 0] 51 (0, 0))) := ⟨by rw [← hq_]; exact q_5⟩; have n2_ : Aside0 (Below w.heap.size w w76) := ⟨by rw [← hq_]; exact q_1⟩; clear HO165 BK159 HB hq_; have HO165 := n0_; have BK159 := n1_; have HB := n2_; clear n0_ n1_ n2_)); have p174 : 0 ≤ (16 : Int) := q_13; have q174 : 16 < (l0.length : Int) := of_decide_eq_true q_3; obtain ⟨ad174, e174, hx174_0⟩ := Kd.at_int HR0.out 16 p174 q174; obtain rfl : ad160 = ad174 := (by injection e174); (try simp only [show (16 : Int).toNat = 16 from rfl, Nat.reduceMul, Nat.reduceEqDiff, Go.Addr.add, ↓reduceIte] at hx174_0); have qi174 : (16 < l0.length) = True := eq_true q_13; (try rw [show ((16 : Int)).toNat = 16 from rfl] at hx174_0); replace hx174_0 := (HB.out.cell (World.block_lt_of_cell? w _ hx174_0)).trans hx174_0; replace p174 := eq_true p174; replace q174 := eq_true q174; obtain ⟨i080, hi080, _, hsz80, _⟩ := info_parts info5; obtain ⟨A80, hcut80, hA80, hC80⟩ := print_mid_of (P := Try.prog) (Value.int .u8) 0 27 5 .i64 .i64 Try.underlying27 hi080 hsz80 (some ad160) c0 l0 (ji52) 251 (of_decide_eq_true q_3) q_12 (of_decide_eq_true q_3) HC0.out; have HR175 := Aside0.mk (Kd.C_of_reads (h1 := fun _ => rfl) (hA80 _ (Kd.reads_of_C HR0.out))); have HC175 := Aside0.mk hC80; clear hA80 hC80 hi080 hsz80) | (go_at_call 43; refine calls_of_args (args' := #[.slice A80 ((l0.take 251).drop ((ji52) : Int).toNat).length (c0 - (ji52).toNat), .func (.func 44) #[] #[]]) (by first | rfl | (simp only [List.length_take, List.length_drop, Int.toNat_natCast]; done) | (simp; done)) ?_; (with_reducible refine (slices_ContainsFunc_byte_byte.calls _ _ ((l0.take 251).drop ((ji52) : Int).toNat) false _ ?side1 ?side2 A56.out).mono ?_); (case side1 => repeat (first | exact (Kd.C_below HR175.out HB.out) | (with_reducible refine Kd.C_alloc ?_ _) | (with_reducible refine Kd.C_drewN ?_ _) | (with_reducible refine Kd.C_drew ?_))); (case side2 => exact HC175.out); rintro e w81 ⟨rfl, hb⟩; have n0_ := Aside0.mk (Kd.R_below q_8 hb); have n1_ := Aside0.mk (blk_below (g := gb159) (o := .cells #[.int .i64 0, .int .i64 0, .slice none 0 0] 51 (0, 0)) q_5 hb); have n2_ := Aside0.mk (below_step q_1 hb); clear HO165; clear BK159; clear HB; have HO165 := n0_; have BK159 := n1_; have HB := n2_; clear n0_ n1_ n2_; (try clear hb); (try clear hb2); (try clear hk); (try clear hi); obtain ⟨i082, hi082, _, hsz82, _⟩ := info_parts info5; obtain ⟨A82, hcut82, hA82, hC82⟩ := print_mid_of (P := Try.prog) (Value.int .u8) 0 27 5 .i64 .i64 Try.underlying27 hi082 hsz82 (some ad160) c0 l0 17 (ji52) q_13 q_12 (of_decide_eq_true q_3) HC0.out; have HR177 := Aside0.mk (Kd.C_of_reads (h1 := fun _ => rfl) (hA82 _ (Kd.reads_of_C HR0.out))); have HC177 := Aside0.mk hC82; clear hA82 hC82 hi082 hsz82) | ((with_reducible refine gate_callee (f := 45) rfl ?_); refine goesL_ (some 77) rfl rfl Try.func45 q_11 rfl #[.slice A82 ((l0.take ((ji52) : Int).toNat).drop 17).length (c0 - 17)] rfl (by (try simp only [List.map_toArray, List.map_cons, List.map_nil]); first | done | (rw [show ((l0.take ((ji52) : Int).toNat).drop 17).length = ((ji52).toNat - 17) from (by rw [List.length_drop, List.length_take]; have h_ : ((ji52) : Int) ≤ (l0.length : Int) := of_decide_eq_true q_3; omega)] <;> rfl) | (simp only [hji52]; rfl) | rfl | (simp only [List.length_drop, List.length_take]; rfl)) ?_; (with_reducible refine (slices_Clone_byte_byte.calls _ _ ((l0.take ((ji52) : Int).toNat).drop 17) t178 _ ?side1 ?side2 A71.out).mono ?_); (case side1 => repeat (first | exact (Kd.C_below HR177.out HB.out) | (with_reducible refine Kd.C_alloc ?_ _) | (with_reducible refine Kd.C_drewN ?_ _) | (with_reducible refine Kd.C_drew ?_))); (case side2 => exact HC177.out); rintro e w83 ⟨v179, rfl, ho0, hb⟩; refine ⟨_, rfl, ?_⟩; have n0_ := Aside0.mk (Kd.R_elder' q_8 (Kd.R_base ho0) hb); have n1_ := Aside0.mk (Kd.R_lower (Kd.R_new' ho0 (Kd.R_lt q_8)) (below_size q_1)); have n2_ := Aside0.mk (blk_below (g := gb159) (o := .cells #[.int .i64 0, .int .i64 0, .slice none 0 0] 51 (0, 0)) q_5 hb); have n3_ := Aside0.mk (below_step q_1 hb); clear HO165; clear BK159; clear HB; have HO165 := n0_; have HO180 := n1_; have BK159 := n2_; have HB := n3_; clear n0_ n1_ n2_ n3_; (try clear hb); (try clear hb2); (try clear hk); (try clear hi); (try clear ho0); obtain ⟨Ao84, co84, eo84⟩ := Kd.R_slice HO180.out; subst eo84; have hcz85_0 : w83.cell? ⟨gb159, 0, none⟩ = some (.int .i64 0) := (blk_cell BK159.out 0).trans rfl; have hcz85_1 : w83.cell? ⟨gb159, 1, none⟩ = some (.int .i64 0) := (blk_cell BK159.out 1).trans rfl; have hcz85_2 : w83.cell? ⟨gb159, 2, none⟩ = some (.slice none 0 0) := (blk_cell BK159.out 2).trans rfl; have hfz85_0 := blk_frozen BK159.out 0; have hfz85_1 := blk_frozen BK159.out 1; have hfz85_2 := blk_frozen BK159.out 2))
                                          refine bodyPost_ret (results_ct rfl _ _ gb159 51 #[.int .i64 (wrap64 (t169)), .int .i64 (wrap64 (t172)), .slice Ao84 t178.length co84] (0, 0) _ rfl (by (with_reducible repeat (first | refine blk_drewN ?_ _ | refine blk_drew ?_ | refine blk_alloc ?_ _)); refine blk_put (cs := #[.int .i64 (wrap64 (t169)), .int .i64 (wrap64 (t172)), .slice none 0 0]) ?_ 2 _ rfl; (with_reducible repeat (first | refine blk_drewN ?_ _ | refine blk_drew ?_ | refine blk_alloc ?_ _)); refine blk_put (cs := #[.int .i64 (wrap64 (t169)), .int .i64 0, .slice none 0 0]) ?_ 1 _ rfl; (with_reducible repeat (first | refine blk_drewN ?_ _ | refine blk_drew ?_ | refine blk_alloc ?_ _)); refine blk_put (cs := #[.int .i64 0, .int .i64 0, .slice none 0 0]) ?_ 0 _ rfl; (with_reducible repeat (first | refine blk_drewN ?_ _ | refine blk_drew ?_ | refine blk_alloc ?_ _)); exact BK159.out) Try.underlying51 rfl q_11) rfl ?_
                                          exact ⟨_, by first | rfl | (simp [errW_none, errW_some] <;> rfl) | (simp only [← hji52]; first | rfl | (simp [errW_none, errW_some] <;> rfl)) | (simp [*, errW_none, errW_some] <;> rfl), by (with_reducible repeat (first | apply Kd.R_alloc | apply Kd.R_drewN | apply Kd.R_drew)); exact Kd.R_mono (Kd.R_far (p := ⟨gb159, 2, none⟩) (Kd.R_far (p := ⟨gb159, 1, none⟩) (Kd.R_far (p := ⟨gb159, 0, none⟩) (Kd.R_types HO180.out BK159.out (by decide)) (fun _ hk => hk.2) (.int .i64 (wrap64 (t169)))) (fun _ hk => hk.2) (.int .i64 (wrap64 (t172)))) (fun _ hk => hk.2) (.slice Ao84 t178.length co84)) (fun _ hk => trivial), by repeat (first | (with_reducible first | exact HB.out | apply below_alloc | apply pw_below_drewN | apply below_drew1 | refine below_set ?_ GE159.out) | exact HB.out)⟩
                                        · rw [if_neg c70] at H
                                          exact absurd H (by simp)
                                      · rw [if_neg c69] at H
                                        exact absurd H (by simp)
                                  · rw [if_neg c54] at H
                                    exact absurd H (by simp)
                                · rw [if_neg c53] at H
                                  exact absurd H (by simp)
                        · rw [if_neg c21] at H
                          exact absurd H (by simp)
                      · rw [if_neg c19] at H
                        exact absurd H (by simp)
                    · rw [if_neg c18] at H
                      exact absurd H (by simp)
                  · rw [if_neg c16] at H
                    exact absurd H (by simp)
                · replace c15 := Bool.eq_false_iff.mpr c15
                  subst c15
                  have H1 : (some (0, 0, ([] : List Int), 21)) = some (r1, r2, r3, r4) := by rw [if_neg (show ¬ (false = true) by decide)] at H; exact H
                  clear H
                  have H := H1
                  clear H1
                  simp only [Option.some.injEq, Prod.mk.injEq] at H
                  obtain ⟨rfl, rfl, rfl, rfl⟩ := H
                  go_enter Try.func32, Try.ntmps32
                  try go_wp2_with (first | ((with_reducible refine gate_dst (N := 2) rfl ?_); refine box_event ?hg (N := 2) ?hd (cs := #[.int .i64 0, .int .i64 0, .slice none 0 0]) (t := 51) ?hr ?_; (case hd => rfl); (case hg => rfl); (case hr => first | (go_simp; done) | (go_simp; rfl)); intro gb159 hg w86 hbox hb; have n0_ := Aside0.mk (below_step q_4 hb); have n1_ := Aside0.mk (hbox); have n2_ := Aside0.mk ((by rw [hg]; exact (below_size q_4) : w.heap.size ≤ gb159)); have n3_ := Aside0.mk ((by rw [hg]; exact (below_size q_4) : w.heap.size ≤ gb159)); clear HB; have HB := n0_; have BK159 := n1_; have GW159 := n2_; have GE159 := n3_; clear n0_ n1_ n2_ n3_; clear hb hbox hg; have p160 : 0 ≤ (255 : Int) := q_13; have q160 : 255 < (l0.length : Int) := of_decide_eq_true q_3; obtain ⟨ad160, e160, hx160_0⟩ := Kd.at_int HR0.out 255 p160 q160; cases e160; (try simp only [show (255 : Int).toNat = 255 from rfl, Nat.reduceMul, Nat.reduceEqDiff, Go.Addr.add, ↓reduceIte] at hx160_0); have qi160 : (255 < l0.length) = True := eq_true q_13; (try rw [show ((255 : Int)).toNat = 255 from rfl] at hx160_0); replace hx160_0 := (HB.out.cell (World.block_lt_of_cell? w _ hx160_0)).trans hx160_0; replace p160 := eq_true p160; replace q160 := eq_true q160; have p161 : 0 ≤ (255 : Int) := q_13; have q161 : 255 < (l0.length : Int) := of_decide_eq_true q_3; obtain ⟨ad161, e161, hx161_0⟩ := Kd.at_int HR0.out 255 p161 q161; obtain rfl : ad160 = ad161 := (by injection e161); (try simp only [show (255 : Int).toNat = 255 from rfl, Nat.reduceMul, Nat.reduceEqDiff, Go.Addr.add, ↓reduceIte] at hx161_0); have qi161 : (255 < l0.length) = True := eq_true q_13; (try rw [show ((255 : Int)).toNat = 255 from rfl] at hx161_0); replace hx161_0 := (HB.out.cell (World.block_lt_of_cell? w _ hx161_0)).trans hx161_0; replace p161 := eq_true p161; replace q161 := eq_true q161))
                  have n0_ := Aside0.mk (blk_drew BK159.out)
                  have n1_ := Aside0.mk (below_drew1 HB.out)
                  clear BK159
                  clear HB
                  have BK159 := n0_
                  have HB := n1_
                  clear n0_ n1_
                  obtain ⟨i088, hi088, _, hsz88, _⟩ := info_parts info5
                  obtain ⟨hcut88, hA88, hC88⟩ := print_take_of (P := Try.prog) (Value.int .u8) 0 27 5 .i64 Try.underlying27 hi088 hsz88 (some ad160) c0 l0 251 q_13 (of_decide_eq_true q_3) HC0.out
                  have HR162 := Aside0.mk (Kd.C_of_reads (h1 := fun _ => rfl) (hA88 _ (Kd.reads_of_C HR0.out)))
                  have HC162 := Aside0.mk hC88
                  clear hA88 hC88 hi088 hsz88
                  obtain ⟨i089, hi089, _, hsz89, _⟩ := info_parts info5
                  obtain ⟨A89, hcut89, hA89, hC89⟩ := print_mid_of (P := Try.prog) (Value.int .u8) 0 27 5 .i64 .i64 Try.underlying27 hi089 hsz89 (some ad160) c0 l0 251 255 q_13 q_12 (of_decide_eq_true q_3) HC0.out
                  have HR166 := Aside0.mk (Kd.C_of_reads (h1 := fun _ => rfl) (hA89 _ (Kd.reads_of_C HR0.out)))
                  have HC166 := Aside0.mk hC89
                  clear hA89 hC89 hi089 hsz89
                  refine start_ (n := 8) (S := fun w' => True) (ds := []) #[false, false, false, false, false, false, false, false] q_11 rfl rfl trivial (fun hHeld => ?_); refine with_tabW record_Read.tab7 record_Read.bits7 (fun HT_ HW_ => ?_)
                  generalize w86.drew = w87 at BK159 HB HR162 HR166 hHeld ⊢
                  refine pure_ (i := 0) (N := some 27) (v := ?_) (a' := ?_) #[true, false, false, false, false, false, false, false] rfl rfl (any_of HT_.out q_11) (fun _ _ _ h => h) (Or.inl ⟨by rfl, ?_⟩) ?_ ?_
                  rotate_left
                  · intro w'
                    go_simp
                    with_reducible rfl
                  rotate_left
                  · simp only [Act.put, List.setIfInBounds_toArray, List.set_cons_zero, List.set_cons_succ, i64_w, i32_w]
                    rfl
                  refine pure_ (i := 1) (N := some 28) (v := ?_) (a' := ?_) #[true, true, false, false, false, false, false, false] rfl rfl (any_of HT_.out q_11) (fun _ _ _ h => h) (Or.inl ⟨by rfl, ?_⟩) ?_ ?_
                  rotate_left
                  · intro w'
                    go_simp
                    with_reducible rfl
                  rotate_left
                  · simp only [Act.put, List.setIfInBounds_toArray, List.set_cons_zero, List.set_cons_succ, i64_w, i32_w]
                    rfl
                  refine pure_ (i := 3) (N := some 30) (v := ?_) (a' := ?_) #[true, true, false, true, false, false, false, false] rfl rfl (any_of HT_.out q_11) (fun _ _ _ h => h) (Or.inl ⟨by rfl, ?_⟩) ?_ ?_
                  rotate_left
                  · intro w'
                    go_simp
                    with_reducible rfl
                  rotate_left
                  · simp only [Act.put, List.setIfInBounds_toArray, List.set_cons_zero, List.set_cons_succ, i64_w, i32_w]
                    rfl
                  refine pure_ (i := 4) (N := some 31) (v := ?_) (a' := ?_) #[true, true, false, true, true, false, false, false] rfl rfl (any_of HT_.out q_11) (fun _ _ _ h => h) (Or.inl ⟨by rfl, ?_⟩) ?_ ?_
                  rotate_left
                  · intro w'
                    go_simp
                    with_reducible rfl
                  rotate_left
                  · simp only [Act.put, List.setIfInBounds_toArray, List.set_cons_zero, List.set_cons_succ, i64_w, i32_w]
                    rfl
                  refine one_ (i := 2) (N := some 29) #[true, true, true, true, true, false, false, false] rfl rfl (one_of HT_.out q_11) (by decide) (fun K hK => ?_)
                  refine goes_ Try.func41 q_11 rfl #[.slice (some ad160) (l0.take 251).length c0] (by rfl) rfl rfl q_7 ?_
                  with_reducible refine (record_sums.calls k _ _ (l0.take 251) t163 _ ?side1 ?side2 A11.out).mono ?_
                  (case side1 => repeat (first | exact (Kd.C_below HR162.out HB.out) | (with_reducible refine Kd.C_alloc ?_ _) | (with_reducible refine Kd.C_drewN ?_ _) | (with_reducible refine Kd.C_drew ?_)))
                  (case side2 => exact HC162.out)
                  rintro e w90 ⟨v164, rfl, ho0, hb⟩
                  refine ⟨_, rfl, ?_⟩
                  have n0_ := Aside0.mk (Kd.R_lower ho0 (below_size q_1))
                  have n1_ := Aside0.mk (blk_below (g := gb159) (o := .cells #[.int .i64 0, .int .i64 0, .slice none 0 0] 51 (0, 0)) q_5 hb)
                  have n2_ := Aside0.mk (below_step q_1 hb)
                  clear BK159
                  clear HB
                  have HO165 := n0_
                  have BK159 := n1_
                  have HB := n2_
                  clear n0_ n1_ n2_
                  (try clear hb)
                  (try clear hb2)
                  (try clear hk)
                  (try clear hi)
                  (try clear ho0)
                  obtain ⟨Ao91, co91, eo91⟩ := Kd.R_slice HO165.out
                  (first | subst eo91 | (injection eo91 with f1_ f2_ f3_; have f4_ := f1_.symm; have f5_ := f3_.symm; clear f1_ f2_ f3_; subst f4_; subst f5_))
                  refine hK.out _ _ trivial (fun hHeld => ?_)
                  clear hK K
                  refine norm_ (a' := ?_) ?_ ?_
                  rotate_left
                  · show Act.put _ (some 29) _ = _
                    simp only [Act.put, List.setIfInBounds_toArray, List.set_cons_zero, List.set_cons_succ, i64_w, i32_w]
                    rfl
                  refine one_ (i := 5) (N := some 32) #[true, true, true, true, true, true, false, false] rfl rfl (one_of HT_.out q_11) (by decide) (fun K hK => ?_)
                  refine goes_ Try.func42 q_11 rfl #[.slice Ao91 t163.length co91, .slice A89 ((l0.take 255).drop 251).length (c0 - 251)] (by rfl) rfl rfl q_6 ?_
                  with_reducible refine (slices_Equal_byte_byte.calls k _ _ t163 _ _ ((l0.take 255).drop 251) false _ ?side1 ?side2 ?side3 ?side4 A14.out).mono ?_
                  (case side1 => repeat (first | exact (Kd.R_reads' HO165.out).2.2 | (with_reducible refine Kd.C_alloc ?_ _) | (with_reducible refine Kd.C_drewN ?_ _) | (with_reducible refine Kd.C_drew ?_)))
                  (case side2 => exact (Kd.R_reads' HO165.out).2.1)
                  (case side3 => repeat (first | exact (Kd.C_below HR166.out HB.out) | (with_reducible refine Kd.C_alloc ?_ _) | (with_reducible refine Kd.C_drewN ?_ _) | (with_reducible refine Kd.C_drew ?_)))
                  (case side4 => exact HC166.out)
                  rintro e w' ⟨rfl, ⟨nd, rfl⟩⟩
                  refine ⟨_, rfl, ?_⟩
                  refine hK.out _ _ trivial (fun hHeld => ?_)
                  clear hK K
                  refine norm_ (a' := ?_) ?_ ?_
                  rotate_left
                  · show Act.put _ (some 32) _ = _
                    simp only [Act.put, List.setIfInBounds_toArray, List.set_cons_zero, List.set_cons_succ, i64_w, i32_w]
                    rfl
                  refine pure_ (i := 6) (N := some 33) (v := ?_) (a' := ?_) #[true, true, true, true, true, true, true, false] rfl rfl (any_of HT_.out q_11) (fun _ _ _ h => h) (Or.inl ⟨by rfl, ?_⟩) ?_ ?_
                  rotate_left
                  · intro w'
                    go_simp
                    with_reducible rfl
                  rotate_left
                  · simp only [Act.put, List.setIfInBounds_toArray, List.set_cons_zero, List.set_cons_succ, i64_w, i32_w]
                    rfl
                  refine pure_ (i := 7) (N := some 26) (v := ?_) (a' := ?_) #[true, true, true, true, true, true, true, true] rfl rfl (any_of HT_.out q_11) (fun _ _ _ h => h) (Or.inl ⟨by rfl, ?_⟩) ?_ ?_
                  rotate_left
                  · intro w'
                    go_simp
                    with_reducible rfl
                  rotate_left
                  · simp only [Act.put, List.setIfInBounds_toArray, List.set_cons_zero, List.set_cons_succ, i64_w, i32_w]
                    rfl
                  refine done_ (done_of HT_.out q_11) ?_
                  have hcz92_0 : w90.cell? ⟨gb159, 0, none⟩ = some (.int .i64 0) := (blk_cell BK159.out 0).trans rfl
                  have hcz92_1 : w90.cell? ⟨gb159, 1, none⟩ = some (.int .i64 0) := (blk_cell BK159.out 1).trans rfl
                  have hcz92_2 : w90.cell? ⟨gb159, 2, none⟩ = some (.slice none 0 0) := (blk_cell BK159.out 2).trans rfl
                  have hfz92_0 := blk_frozen BK159.out 0
                  have hfz92_1 := blk_frozen BK159.out 1
                  have hfz92_2 := blk_frozen BK159.out 2
                  try go_wp2
                  refine bodyPost_ret (results_ct rfl _ _ gb159 51 #[.int .i64 0, .int .i64 0, .slice none 0 0] (0, 0) _ rfl q_2 Try.underlying51 rfl q_11) rfl ?_
                  exact ⟨_, by first | rfl | (simp [errW_none, errW_some] <;> rfl) | (simp [*, errW_none, errW_some] <;> rfl), by first | exact Kd.R_nil _ _ _ _ _ | exact Kd.N_nil _ _ _ _ _ | exact Kd.V_nil _ _ _ _ _ | exact Kd.Q_nil _ _ _ _ _ | exact Kd.S_nil _ _ _ _ _, by repeat (first | (with_reducible first | exact HB.out | apply below_alloc | apply pw_below_drewN | apply below_drew1 | refine below_set ?_ GE159.out) | exact HB.out)⟩
              · rw [if_neg c13] at H
                exact absurd H (by simp)
            · rw [if_neg c12] at H
              exact absurd H (by simp)
          · rw [if_neg c10] at H
            exact absurd H (by simp)
    · rw [if_neg c3] at H
      exact absurd H (by simp)
  · rw [if_neg c2] at H
    have c2b0 : ((l0.length : Int) == 256) = false := beq_eq_false_iff_ne.mpr c2
    have c2b1 : ((l0.length : Int) != 256) = true := bne_iff_ne.mpr c2
    simp only [Option.some.injEq, Prod.mk.injEq] at H
    obtain ⟨rfl, rfl, rfl, rfl⟩ := H
    go_enter Try.func32, Try.ntmps32
    go_wp2_with (first | ((with_reducible refine gate_dst (N := 2) rfl ?_); refine box_event ?hg (N := 2) ?hd (cs := #[.int .i64 0, .int .i64 0, .slice none 0 0]) (t := 51) ?hr ?_; (case hd => rfl); (case hg => rfl); (case hr => first | (go_simp; done) | (go_simp; rfl)); intro gb159 hg w93 hbox hb; have n0_ := Aside0.mk (below_step q_4 hb); have n1_ := Aside0.mk (hbox); have n2_ := Aside0.mk ((by rw [hg]; exact (below_size q_4) : w.heap.size ≤ gb159)); have n3_ := Aside0.mk ((by rw [hg]; exact (below_size q_4) : w.heap.size ≤ gb159)); clear HB; have HB := n0_; have BK159 := n1_; have GW159 := n2_; have GE159 := n3_; clear n0_ n1_ n2_ n3_; clear hb hbox hg; have hcz94_0 : w93.cell? ⟨gb159, 0, none⟩ = some (.int .i64 0) := (blk_cell BK159.out 0).trans rfl; have hcz94_1 : w93.cell? ⟨gb159, 1, none⟩ = some (.int .i64 0) := (blk_cell BK159.out 1).trans rfl; have hcz94_2 : w93.cell? ⟨gb159, 2, none⟩ = some (.slice none 0 0) := (blk_cell BK159.out 2).trans rfl; have hfz94_0 := blk_frozen BK159.out 0; have hfz94_1 := blk_frozen BK159.out 1; have hfz94_2 := blk_frozen BK159.out 2))
    refine bodyPost_ret (results_ct rfl _ _ gb159 51 #[.int .i64 0, .int .i64 0, .slice none 0 0] (0, 0) _ rfl q_2 Try.underlying51 rfl q_11) rfl ?_
    exact ⟨_, by first | rfl | (simp [errW_none, errW_some] <;> rfl) | (simp [*, errW_none, errW_some] <;> rfl), by first | exact Kd.R_nil _ _ _ _ _ | exact Kd.N_nil _ _ _ _ _ | exact Kd.V_nil _ _ _ _ _ | exact Kd.Q_nil _ _ _ _ _ | exact Kd.S_nil _ _ _ _ _, by repeat (first | (with_reducible first | exact HB.out | apply below_alloc | apply pw_below_drewN | apply below_drew1 | refine below_set ?_ GE159.out) | exact HB.out)⟩

end Go.Proofs.Ytaiiegbhbadciaa.PF22R
