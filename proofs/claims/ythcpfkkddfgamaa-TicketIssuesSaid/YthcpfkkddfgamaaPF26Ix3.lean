/- By a program of this session (wip/tool/pp.py): plain Lean functions of the Go functions that this family of laws uses, the walks that the Go code comes to their answers, and the row of the law. No condition beside those that the row itself gives. -/
import Derived.Test.YthcpfkkddfgamaaPF26Ix0
import Derived.Test.YthcpfkkddfgamaaPF26Ix2
namespace Go.Proofs.Ythcpfkkddfgamaa.PF26I
open Go.RowKit Go.Proofs.YthcpfkkddfgamaaW.Hand Go.Proofs.YthcpfkkddfgamaaW.PrintWords Go.Proofs.YthcpfkkddfgamaaW.PrintLast Go.Proofs.YthcpfkkddfgamaaW.PrintMore
attribute [local go_sem] max2_int min2_int max_two min_two max_three min_three max_four min_four   -- for this text's walks alone
set_option linter.unusedVariables false
set_option linter.unusedSimpArgs false

/-! ### batonlaw26_Ref: function 37 -/
def batonlaw26_Ref.l0 : Nat → List (S69) → List (S75) → Int → Option ((List (S75)))
  | 0, _, _, _ => none
  | k + 1, x0, x3, x4 => if x4 < (x0.length : Int) then (if 0 ≤ x4 then (if x3.length < 5864062014805 then (batonlaw26_Ref.l0 k x0 (x3 ++ [(⟨(rd_T69 x0 x4).f0, (rd_T69 x0 x4).f1, (rd_T69 x0 x4).f2⟩ : S75)]) (wrap64 (x4 + 1))) else (none)) else (none)) else (some x3)
def batonlaw26_Ref.f (k : Nat) (l0 : List (S69)) : Option ((List (S75))) := batonlaw26_Ref.l0 k l0 ([] : List (S75)) 0
theorem batonlaw26_Ref.mono_l : ∀ k, (∀ y0 y1 y2, LeO (batonlaw26_Ref.l0 k y0 y1 y2) (batonlaw26_Ref.l0 (k + 1) y0 y1 y2))
  | 0 => fun _ _ _ r h => by simp [batonlaw26_Ref.l0] at h
  | k + 1 => by
    have ih0 := batonlaw26_Ref.mono_l k
    · intro y0 y1 y2
      unfold batonlaw26_Ref.l0
      repeat' first
      | (with_reducible exact ih0 _ _ _)
      | (with_reducible exact LeO.refl _)
      | (with_reducible exact LeO.none _)
      | (with_reducible refine LeO.ite ?_ ?_)
      | (with_reducible refine LeO.bind ?_ (fun _ => ?_))
      | exact ih0 _ _ _
      | exact LeO.none _
      | refine LeO.ite ?_ ?_
      | refine LeO.bind ?_ (fun _ => ?_)
theorem batonlaw26_Ref.mono : ∀ a0 k, LeO (batonlaw26_Ref.f k a0) (batonlaw26_Ref.f (k + 1) a0) := by
  intro a0 k
  have ih0 := batonlaw26_Ref.mono_l k
  unfold batonlaw26_Ref.f
  repeat' first
      | (with_reducible exact ih0 _ _ _)
      | (with_reducible exact LeO.refl _)
      | (with_reducible exact LeO.none _)
      | (with_reducible refine LeO.ite ?_ ?_)
      | (with_reducible refine LeO.bind ?_ (fun _ => ?_))
      | exact ih0 _ _ _
      | exact LeO.none _
      | refine LeO.ite ?_ ?_
      | refine LeO.bind ?_ (fun _ => ?_)
def batonlaw26_Ref.T5 : Bool × List (List Nat × List Nat) := (true, [([], []), ([], []), ([], []), ([1, 2], [1, 2]), ([3], [3]), ([4], [4]), ([], []), ([], []), ([6, 7], [6, 7]), ([8], [8]), ([9], [9]), ([], []), ([], []), ([11, 12], [11, 12]), ([13], [13]), ([14], [14]), ([5, 10, 15], [5, 10, 15]), ([16], [16]), ([0, 17], [0, 17]), ([18, 18, 0, 1, 2, 3, 4, 5, 6, 7, 8, 9, 10, 11, 12, 13, 14, 15, 16, 17, 18], [0, 18])])
def batonlaw26_Ref.B5 : List Nat := [0, 0, 0, 6, 14, 30, 0, 0, 192, 448, 960, 0, 0, 6144, 14336, 30720, 65534, 131070, 262143, 524287]
theorem batonlaw26_Ref.tab5 : rtab .any (opsOf Try.f37 5) = batonlaw26_Ref.T5 := by kernel_rfl
theorem batonlaw26_Ref.bits5 : waitsOk batonlaw26_Ref.T5.2 batonlaw26_Ref.B5 = true := by kernel_rfl
set_option maxHeartbeats 8000000 in
set_option maxRecDepth 100000 in
theorem batonlaw26_Ref.calls (k : Nat) (A0 : Option Addr) (c0 : Nat) (l0 : List (S69)) (r : List (S75)) (w : World) (hr0 : Kd.C k69 w A0 l0.length l0) (hc0 : l0.length ≤ c0) (h : batonlaw26_Ref.f k l0 = some r) :
    Calls Try.prog 37 #[.slice A0 l0.length c0] w fun e w' => ∃ v0_ : Value, e = .returned (v0_) ∧ Kd.R k75 75 w' w.heap.size (fun _ => True) v0_ r ∧ Below w.heap.size w w' := by
  have hu75 := Try.underlying75
  have HR0 := Aside0.mk hr0
  have HC0 := Aside0.mk hc0
  clear hr0 hc0
  have HB := Aside0.mk (Below.refl w.heap.size w)
  have H : (batonlaw26_Ref.l0 k l0 ([] : List (S75)) 0) = some r := h
  clear h
  have H' := Aside0.mk H
  clear H
  go_enter Try.func37, Try.ntmps37
  go_wp2
  go_loopg [3, 4] k (fun kq v3 v4 w' => ∃ (x3_1 : List (S75)) (x4_1 : Int), v4 = .int .i64 x4_1 ∧ Aside0 (batonlaw26_Ref.l0 kq l0 x3_1 x4_1 = some r) ∧ Aside0 (kq ≤ k) ∧ Aside0 (Kd.R k75 75 w' w.heap.size (fun _ => True) v3 x3_1) ∧ Aside0 (Below w.heap.size w w'))
  case atStart => exact ⟨(([] : List (S75))), (0), (by first | rfl | (simp; done) | (simp [*]; done)), H', ⟨Nat.le_refl _⟩, ⟨by first | exact Kd.R_nil _ _ _ _ _ | exact Kd.N_nil _ _ _ _ _ | exact Kd.V_nil _ _ _ _ _ | exact Kd.Q_nil _ _ _ _ _ | exact Kd.S_nil _ _ _ _ _⟩, ⟨by repeat (first | (with_reducible first | exact HB.out | apply below_alloc | apply pw_below_drewN | apply below_drew1) | exact HB.out)⟩⟩
  case round =>
    clear H'
    obtain ⟨x3_1, x4_1, rfl, HA, HK1, HO_3, HB⟩ := hrel
    cases gk with
    | zero => exact absurd HA.out (by simp [batonlaw26_Ref.l0])
    | succ k1 =>
      have H := HA.out
      clear HA
      simp only [batonlaw26_Ref.l0] at H
      by_cases c2 : x4_1 < (l0.length : Int)
      · rw [if_pos c2] at H
        have c2b0 : decide (x4_1 < (l0.length : Int)) = true := decide_eq_true c2
        clear c2
        by_cases c3 : 0 ≤ x4_1
        · rw [if_pos c3] at H
          have c3b0 : decide (0 ≤ x4_1) = true := decide_eq_true c3
          clear c3
          by_cases c4 : x3_1.length < 5864062014805
          · rw [if_pos c4] at H
            have LMc4 := Aside0.mk c4
            clear c4
            obtain ⟨y126, hy126⟩ : ∃ y_ : List (S75), y_ = (x3_1 ++ [(⟨(rd_T69 l0 x4_1).f0, (rd_T69 l0 x4_1).f1, (rd_T69 l0 x4_1).f2⟩ : S75)]) := ⟨_, rfl⟩
            replace H : (batonlaw26_Ref.l0 k1 l0 y126 (wrap64 (x4_1 + 1))) = some r := by first | (rw [hy126]; with_reducible exact H) | (have H2_ := (Option.bind_some _ _).symm.trans H; rw [hy126]; with_reducible exact H2_) | (have H2_ := (Option.bind_some _ _).symm.trans H; with_reducible exact H2_) | with_reducible exact H | (rw [hy126]; exact H) | exact H
            have Ny126 := Aside0.mk hy126
            clear hy126
            have H' := Aside0.mk H
            clear H
            try go_wp2
            have n0_ := Aside0.mk (Kd.R_drew HO_3.out)
            have n1_ := Aside0.mk (below_drew1 HB.out)
            clear HO_3
            clear HB
            have HO_3 := n0_
            have HB := n1_
            clear n0_ n1_
            have p123 : 0 ≤ (x4_1 : Int) := of_decide_eq_true (by first | (with_reducible assumption) | assumption)
            have q123 : x4_1 < (l0.length : Int) := of_decide_eq_true (by first | (with_reducible assumption) | assumption)
            obtain ⟨ad123, e123, hx123_0, hx123_1, hx123_2⟩ := at_T69 HR0.out x4_1 p123 q123
            have hw123_2 := hx123_2
            have hw123_1 := hx123_1
            have hw123_0 := hx123_0
            cases e123
            replace hx123_0 := (HB.out.cell (World.block_lt_of_cell? w _ hx123_0)).trans hx123_0
            replace hx123_1 := (HB.out.cell (World.block_lt_of_cell? w _ hx123_1)).trans hx123_1
            replace hx123_2 := (HB.out.cell (World.block_lt_of_cell? w _ hx123_2)).trans hx123_2
            replace p123 := eq_true p123
            replace q123 := eq_true q123
            have p124 : 0 ≤ (x4_1 : Int) := of_decide_eq_true (by first | (with_reducible assumption) | assumption)
            have q124 : x4_1 < (l0.length : Int) := of_decide_eq_true (by first | (with_reducible assumption) | assumption)
            obtain ⟨ad124, e124, hx124_0, hx124_1, hx124_2⟩ := at_T69 HR0.out x4_1 p124 q124
            have hw124_2 := hx124_2
            have hw124_1 := hx124_1
            have hw124_0 := hx124_0
            obtain rfl : ad123 = ad124 := (by injection e124)
            replace hx124_0 := (HB.out.cell (World.block_lt_of_cell? w _ hx124_0)).trans hx124_0
            replace hx124_1 := (HB.out.cell (World.block_lt_of_cell? w _ hx124_1)).trans hx124_1
            replace hx124_2 := (HB.out.cell (World.block_lt_of_cell? w _ hx124_2)).trans hx124_2
            replace p124 := eq_true p124
            replace q124 := eq_true q124
            have p125 : 0 ≤ (x4_1 : Int) := of_decide_eq_true (by first | (with_reducible assumption) | assumption)
            have q125 : x4_1 < (l0.length : Int) := of_decide_eq_true (by first | (with_reducible assumption) | assumption)
            obtain ⟨ad125, e125, hx125_0, hx125_1, hx125_2⟩ := at_T69 HR0.out x4_1 p125 q125
            have hw125_2 := hx125_2
            have hw125_1 := hx125_1
            have hw125_0 := hx125_0
            obtain rfl : ad123 = ad125 := (by injection e125)
            replace hx125_0 := (HB.out.cell (World.block_lt_of_cell? w _ hx125_0)).trans hx125_0
            replace hx125_1 := (HB.out.cell (World.block_lt_of_cell? w _ hx125_1)).trans hx125_1
            replace hx125_2 := (HB.out.cell (World.block_lt_of_cell? w _ hx125_2)).trans hx125_2
            replace p125 := eq_true p125
            replace q125 := eq_true q125
            refine start_ (n := 20) (S := fun w' => w'.cell? (ad123.add ((x4_1).toNat * 3)) = some (.int .i64 ((rd_T69 l0 x4_1).f0)) ∧ w'.cell? ⟨(ad123.add ((x4_1).toNat * 3)).block, (ad123.add ((x4_1).toNat * 3)).off + 1, none⟩ = some (.int .i64 ((rd_T69 l0 x4_1).f1)) ∧ w'.cell? ⟨(ad123.add ((x4_1).toNat * 3)).block, (ad123.add ((x4_1).toNat * 3)).off + 2, none⟩ = some (.int .i64 ((rd_T69 l0 x4_1).f2)) ∧ w'.cell? (ad123.add ((x4_1).toNat * 3)) = some (.int .i64 ((rd_T69 l0 x4_1).f0)) ∧ w'.cell? ⟨(ad123.add ((x4_1).toNat * 3)).block, (ad123.add ((x4_1).toNat * 3)).off + 1, none⟩ = some (.int .i64 ((rd_T69 l0 x4_1).f1)) ∧ w'.cell? ⟨(ad123.add ((x4_1).toNat * 3)).block, (ad123.add ((x4_1).toNat * 3)).off + 2, none⟩ = some (.int .i64 ((rd_T69 l0 x4_1).f2)) ∧ w'.cell? (ad123.add ((x4_1).toNat * 3)) = some (.int .i64 ((rd_T69 l0 x4_1).f0)) ∧ w'.cell? ⟨(ad123.add ((x4_1).toNat * 3)).block, (ad123.add ((x4_1).toNat * 3)).off + 1, none⟩ = some (.int .i64 ((rd_T69 l0 x4_1).f1)) ∧ w'.cell? ⟨(ad123.add ((x4_1).toNat * 3)).block, (ad123.add ((x4_1).toNat * 3)).off + 2, none⟩ = some (.int .i64 ((rd_T69 l0 x4_1).f2))) (ds := []) #[false, false, false, false, false, false, false, false, false, false, false, false, false, false, false, false, false, false, false, false] (by kernel_rfl) rfl rfl ⟨((HB.out.cell (World.block_lt_of_cell? w _ hw123_0)).trans hw123_0), ((HB.out.cell (World.block_lt_of_cell? w _ hw123_1)).trans hw123_1), ((HB.out.cell (World.block_lt_of_cell? w _ hw123_2)).trans hw123_2), ((HB.out.cell (World.block_lt_of_cell? w _ hw124_0)).trans hw124_0), ((HB.out.cell (World.block_lt_of_cell? w _ hw124_1)).trans hw124_1), ((HB.out.cell (World.block_lt_of_cell? w _ hw124_2)).trans hw124_2), ((HB.out.cell (World.block_lt_of_cell? w _ hw125_0)).trans hw125_0), ((HB.out.cell (World.block_lt_of_cell? w _ hw125_1)).trans hw125_1), ((HB.out.cell (World.block_lt_of_cell? w _ hw125_2)).trans hw125_2)⟩ (fun hHeld => ?_); refine with_tabW batonlaw26_Ref.tab5 batonlaw26_Ref.bits5 (fun HT_ HW_ => ?_)
            generalize wr.drew = w5 at HO_3 HB hx123_0 hx123_1 hx123_2 hx124_0 hx124_1 hx124_2 hx125_0 hx125_1 hx125_2 hHeld ⊢
            refine pure_ (i := 0) (N := some 11) (v := ?_) (a' := ?_) #[true, false, false, false, false, false, false, false, false, false, false, false, false, false, false, false, false, false, false, false] rfl rfl (any_of HT_.out (by kernel_rfl)) (fun _ _ _ h => h) (Or.inl ⟨by rfl, ?_⟩) ?_ ?_
            rotate_left
            · intro w'
              go_simp
              with_reducible rfl
            rotate_left
            · simp only [Act.put, List.setIfInBounds_toArray, List.set_cons_zero, List.set_cons_succ, i64_w, i32_w]
              rfl
            refine pure_ (i := 1) (N := some 12) (v := ?_) (a' := ?_) #[true, true, false, false, false, false, false, false, false, false, false, false, false, false, false, false, false, false, false, false] rfl rfl (any_of HT_.out (by kernel_rfl)) (fun _ _ _ h => h) (Or.inl ⟨by rfl, ?_⟩) ?_ ?_
            rotate_left
            · intro w'
              go_simp
              with_reducible rfl
            rotate_left
            · simp only [Act.put, List.setIfInBounds_toArray, List.set_cons_zero, List.set_cons_succ, i64_w, i32_w]
              rfl
            refine pure_ (i := 2) (N := some 13) (v := ?_) (a' := ?_) #[true, true, true, false, false, false, false, false, false, false, false, false, false, false, false, false, false, false, false, false] rfl rfl (any_of HT_.out (by kernel_rfl)) (fun _ _ _ h => h) (Or.inl ⟨by rfl, ?_⟩) ?_ ?_
            rotate_left
            · intro w'
              go_simp
              with_reducible rfl
            rotate_left
            · simp only [Act.put, List.setIfInBounds_toArray, List.set_cons_zero, List.set_cons_succ, i64_w, i32_w]
              rfl
            refine pure_ (i := 3) (N := some 14) (v := ?_) (a' := ?_) #[true, true, true, true, false, false, false, false, false, false, false, false, false, false, false, false, false, false, false, false] rfl rfl (any_of HT_.out (by kernel_rfl)) (fun _ _ _ h => h) (Or.inl ⟨by rfl, ?_⟩) ?_ ?_
            rotate_left
            · intro w'
              go_simp
              with_reducible rfl
            rotate_left
            · simp only [Act.put, List.setIfInBounds_toArray, List.set_cons_zero, List.set_cons_succ, i64_w, i32_w]
              rfl
            refine pure_ (i := 4) (N := some 15) (v := ?_) (a' := ?_) #[true, true, true, true, true, false, false, false, false, false, false, false, false, false, false, false, false, false, false, false] rfl rfl (any_of HT_.out (by kernel_rfl)) (fun _ _ _ h => h) (Or.inl ⟨by rfl, ?_⟩) ?_ ?_
            rotate_left
            · intro w'
              go_simp
              with_reducible rfl
            rotate_left
            · simp only [Act.put, List.setIfInBounds_toArray, List.set_cons_zero, List.set_cons_succ, i64_w, i32_w]
              rfl
            refine pure_ (i := 6) (N := some 17) (v := ?_) (a' := ?_) #[true, true, true, true, true, false, true, false, false, false, false, false, false, false, false, false, false, false, false, false] rfl rfl (any_of HT_.out (by kernel_rfl)) (fun _ _ _ h => h) (Or.inl ⟨by rfl, ?_⟩) ?_ ?_
            rotate_left
            · intro w'
              go_simp
              with_reducible rfl
            rotate_left
            · simp only [Act.put, List.setIfInBounds_toArray, List.set_cons_zero, List.set_cons_succ, i64_w, i32_w]
              rfl
            refine pure_ (i := 7) (N := some 18) (v := ?_) (a' := ?_) #[true, true, true, true, true, false, true, true, false, false, false, false, false, false, false, false, false, false, false, false] rfl rfl (any_of HT_.out (by kernel_rfl)) (fun _ _ _ h => h) (Or.inl ⟨by rfl, ?_⟩) ?_ ?_
            rotate_left
            · intro w'
              go_simp
              with_reducible rfl
            rotate_left
            · simp only [Act.put, List.setIfInBounds_toArray, List.set_cons_zero, List.set_cons_succ, i64_w, i32_w]
              rfl
            refine pure_ (i := 8) (N := some 19) (v := ?_) (a' := ?_) #[true, true, true, true, true, false, true, true, true, false, false, false, false, false, false, false, false, false, false, false] rfl rfl (any_of HT_.out (by kernel_rfl)) (fun _ _ _ h => h) (Or.inl ⟨by rfl, ?_⟩) ?_ ?_
            rotate_left
            · intro w'
              go_simp
              with_reducible rfl
            rotate_left
            · simp only [Act.put, List.setIfInBounds_toArray, List.set_cons_zero, List.set_cons_succ, i64_w, i32_w]
              rfl
            refine pure_ (i := 9) (N := some 20) (v := ?_) (a' := ?_) #[true, true, true, true, true, false, true, true, true, true, false, false, false, false, false, false, false, false, false, false] rfl rfl (any_of HT_.out (by kernel_rfl)) (fun _ _ _ h => h) (Or.inl ⟨by rfl, ?_⟩) ?_ ?_
            rotate_left
            · intro w'
              go_simp
              with_reducible rfl
            rotate_left
            · simp only [Act.put, List.setIfInBounds_toArray, List.set_cons_zero, List.set_cons_succ, i64_w, i32_w]
              rfl
            refine pure_ (i := 11) (N := some 22) (v := ?_) (a' := ?_) #[true, true, true, true, true, false, true, true, true, true, false, true, false, false, false, false, false, false, false, false] rfl rfl (any_of HT_.out (by kernel_rfl)) (fun _ _ _ h => h) (Or.inl ⟨by rfl, ?_⟩) ?_ ?_
            rotate_left
            · intro w'
              go_simp
              with_reducible rfl
            rotate_left
            · simp only [Act.put, List.setIfInBounds_toArray, List.set_cons_zero, List.set_cons_succ, i64_w, i32_w]
              rfl
            refine pure_ (i := 12) (N := some 23) (v := ?_) (a' := ?_) #[true, true, true, true, true, false, true, true, true, true, false, true, true, false, false, false, false, false, false, false] rfl rfl (any_of HT_.out (by kernel_rfl)) (fun _ _ _ h => h) (Or.inl ⟨by rfl, ?_⟩) ?_ ?_
            rotate_left
            · intro w'
              go_simp
              with_reducible rfl
            rotate_left
            · simp only [Act.put, List.setIfInBounds_toArray, List.set_cons_zero, List.set_cons_succ, i64_w, i32_w]
              rfl
            refine pure_ (i := 13) (N := some 24) (v := ?_) (a' := ?_) #[true, true, true, true, true, false, true, true, true, true, false, true, true, true, false, false, false, false, false, false] rfl rfl (any_of HT_.out (by kernel_rfl)) (fun _ _ _ h => h) (Or.inl ⟨by rfl, ?_⟩) ?_ ?_
            rotate_left
            · intro w'
              go_simp
              with_reducible rfl
            rotate_left
            · simp only [Act.put, List.setIfInBounds_toArray, List.set_cons_zero, List.set_cons_succ, i64_w, i32_w]
              rfl
            refine pure_ (i := 14) (N := some 25) (v := ?_) (a' := ?_) #[true, true, true, true, true, false, true, true, true, true, false, true, true, true, true, false, false, false, false, false] rfl rfl (any_of HT_.out (by kernel_rfl)) (fun _ _ _ h => h) (Or.inl ⟨by rfl, ?_⟩) ?_ ?_
            rotate_left
            · intro w'
              go_simp
              with_reducible rfl
            rotate_left
            · simp only [Act.put, List.setIfInBounds_toArray, List.set_cons_zero, List.set_cons_succ, i64_w, i32_w]
              rfl
            refine take_ (i := 5) (N := some 16) (v := ?_) (a' := ?_) #[true, true, true, true, true, true, true, true, true, true, false, true, true, true, true, false, false, false, false, false] rfl rfl (take_ofW HT_.out HW_.out (by kernel_rfl)) (fun _ _ _ h => h) (Or.inl ⟨by rfl, ?_⟩) hHeld ?_ ?_
            rotate_left
            · rintro w' ⟨s0, s1, s2, s3, s4, s5, s6, s7, s8⟩
              go_simp
              with_reducible rfl
            rotate_left
            · simp only [Act.put, List.setIfInBounds_toArray, List.set_cons_zero, List.set_cons_succ, i64_w, i32_w]
              rfl
            refine take_ (i := 10) (N := some 21) (v := ?_) (a' := ?_) #[true, true, true, true, true, true, true, true, true, true, true, true, true, true, true, false, false, false, false, false] rfl rfl (take_ofW HT_.out HW_.out (by kernel_rfl)) (fun _ _ _ h => h) (Or.inl ⟨by rfl, ?_⟩) hHeld ?_ ?_
            rotate_left
            · rintro w' ⟨s0, s1, s2, s3, s4, s5, s6, s7, s8⟩
              go_simp
              with_reducible rfl
            rotate_left
            · simp only [Act.put, List.setIfInBounds_toArray, List.set_cons_zero, List.set_cons_succ, i64_w, i32_w]
              rfl
            refine take_ (i := 15) (N := some 26) (v := ?_) (a' := ?_) #[true, true, true, true, true, true, true, true, true, true, true, true, true, true, true, true, false, false, false, false] rfl rfl (take_ofW HT_.out HW_.out (by kernel_rfl)) (fun _ _ _ h => h) (Or.inl ⟨by rfl, ?_⟩) hHeld ?_ ?_
            rotate_left
            · rintro w' ⟨s0, s1, s2, s3, s4, s5, s6, s7, s8⟩
              go_simp
              with_reducible rfl
            rotate_left
            · simp only [Act.put, List.setIfInBounds_toArray, List.set_cons_zero, List.set_cons_succ, i64_w, i32_w]
              rfl
            refine pure_ (i := 16) (N := some 27) (v := ?_) (a' := ?_) #[true, true, true, true, true, true, true, true, true, true, true, true, true, true, true, true, true, false, false, false] rfl rfl (any_of HT_.out (by kernel_rfl)) (fun _ _ _ h => h) (Or.inl ⟨by rfl, ?_⟩) ?_ ?_
            rotate_left
            · intro w'
              go_simp
              with_reducible rfl
            rotate_left
            · simp only [Act.put, List.setIfInBounds_toArray, List.set_cons_zero, List.set_cons_succ, i64_w, i32_w]
              rfl
            refine one_ (i := 17) (N := some 28) #[true, true, true, true, true, true, true, true, true, true, true, true, true, true, true, true, true, true, false, false] rfl rfl (one_of HT_.out (by kernel_rfl)) (by decide) (fun K hK => ?_)
            refine value_ (w1 := ?_) (v := ?_) (by rfl) rfl ?_ ?_
            rotate_left 2
            · go_simp
              constructor
              · rfl
              · rfl
            refine hK.out _ _ ⟨(World.cell?_alloc_lt _ _ _ (World.block_lt_of_cell? _ _ (((HB.out.cell (World.block_lt_of_cell? w _ hw123_0)).trans hw123_0)))).trans (((HB.out.cell (World.block_lt_of_cell? w _ hw123_0)).trans hw123_0)), (World.cell?_alloc_lt _ _ _ (World.block_lt_of_cell? _ _ (((HB.out.cell (World.block_lt_of_cell? w _ hw123_1)).trans hw123_1)))).trans (((HB.out.cell (World.block_lt_of_cell? w _ hw123_1)).trans hw123_1)), (World.cell?_alloc_lt _ _ _ (World.block_lt_of_cell? _ _ (((HB.out.cell (World.block_lt_of_cell? w _ hw123_2)).trans hw123_2)))).trans (((HB.out.cell (World.block_lt_of_cell? w _ hw123_2)).trans hw123_2)), (World.cell?_alloc_lt _ _ _ (World.block_lt_of_cell? _ _ (((HB.out.cell (World.block_lt_of_cell? w _ hw124_0)).trans hw124_0)))).trans (((HB.out.cell (World.block_lt_of_cell? w _ hw124_0)).trans hw124_0)), (World.cell?_alloc_lt _ _ _ (World.block_lt_of_cell? _ _ (((HB.out.cell (World.block_lt_of_cell? w _ hw124_1)).trans hw124_1)))).trans (((HB.out.cell (World.block_lt_of_cell? w _ hw124_1)).trans hw124_1)), (World.cell?_alloc_lt _ _ _ (World.block_lt_of_cell? _ _ (((HB.out.cell (World.block_lt_of_cell? w _ hw124_2)).trans hw124_2)))).trans (((HB.out.cell (World.block_lt_of_cell? w _ hw124_2)).trans hw124_2)), (World.cell?_alloc_lt _ _ _ (World.block_lt_of_cell? _ _ (((HB.out.cell (World.block_lt_of_cell? w _ hw125_0)).trans hw125_0)))).trans (((HB.out.cell (World.block_lt_of_cell? w _ hw125_0)).trans hw125_0)), (World.cell?_alloc_lt _ _ _ (World.block_lt_of_cell? _ _ (((HB.out.cell (World.block_lt_of_cell? w _ hw125_1)).trans hw125_1)))).trans (((HB.out.cell (World.block_lt_of_cell? w _ hw125_1)).trans hw125_1)), (World.cell?_alloc_lt _ _ _ (World.block_lt_of_cell? _ _ (((HB.out.cell (World.block_lt_of_cell? w _ hw125_2)).trans hw125_2)))).trans (((HB.out.cell (World.block_lt_of_cell? w _ hw125_2)).trans hw125_2))⟩ (fun hHeld => ?_)
            clear hK K
            refine norm_ (a' := ?_) ?_ ?_
            rotate_left
            · show Act.put _ (some 28) _ = _
              simp only [Act.put, List.setIfInBounds_toArray, List.set_cons_zero, List.set_cons_succ, i64_w, i32_w]
              rfl
            refine one_ (i := 18) (N := some 29) #[true, true, true, true, true, true, true, true, true, true, true, true, true, true, true, true, true, true, true, false] rfl rfl (one_of HT_.out (by kernel_rfl)) (by decide) (fun K hK => ?_)
            refine Kd.R_append_step k75 (w0 := w) w.heap.size (by rfl) (.tmp 11) (.tmp 28) 62 75 (.agg #[(.int .i64 0), (.int .i64 0), (.int .i64 0)]) 24 rfl Try.underlying62 info75 rfl (by decide) (by omega) u3 x3_1 (⟨(rd_T69 l0 x4_1).f0, (rd_T69 l0 x4_1).f1, (rd_T69 l0 x4_1).f2⟩ : S75) [.int .i64 ((rd_T69 l0 x4_1).f0), .int .i64 ((rd_T69 l0 x4_1).f1), .int .i64 ((rd_T69 l0 x4_1).f2)] (fun _ => True) (fun _ => False) rfl rfl ?aP (fun _ hk => hk.elim) ?aF ?aO ?aB ?aS ?aL ?_
            (case aP => exact k75_mkM _ _ _ (⟨(rd_T69 l0 x4_1).f0, (rd_T69 l0 x4_1).f1, (rd_T69 l0 x4_1).f2⟩ : S75))
            (case aB => exact (by repeat (first | (with_reducible first | exact HB.out | apply below_alloc | apply pw_below_drewN | apply below_drew1) | exact HB.out)))
            (case aF => exact (fun _ _ => trivial))
            (case aO => exact (by (with_reducible repeat (first | apply Kd.R_alloc | apply Kd.R_drewN | apply Kd.R_drew)); exact HO_3.out))
            (case aS => exact (below_size (by repeat (first | (with_reducible first | exact HB.out | apply below_alloc | apply pw_below_drewN | apply below_drew1) | exact HB.out))))
            (case aL => have := LMc4.out; omega)
            intro v127 w6 ho hb hg hat
            rw [← Ny126.out] at ho
            have n0_ := Aside0.mk (hb)
            have n1_ := Aside0.mk (ho)
            clear HB
            clear HO_3
            have HB := n0_
            have HO128 := n1_
            clear n0_ n1_
            clear ho hb hg hat
            refine hK.out _ _ ⟨((HB.out.cell (World.block_lt_of_cell? w _ hw123_0)).trans hw123_0), ((HB.out.cell (World.block_lt_of_cell? w _ hw123_1)).trans hw123_1), ((HB.out.cell (World.block_lt_of_cell? w _ hw123_2)).trans hw123_2), ((HB.out.cell (World.block_lt_of_cell? w _ hw124_0)).trans hw124_0), ((HB.out.cell (World.block_lt_of_cell? w _ hw124_1)).trans hw124_1), ((HB.out.cell (World.block_lt_of_cell? w _ hw124_2)).trans hw124_2), ((HB.out.cell (World.block_lt_of_cell? w _ hw125_0)).trans hw125_0), ((HB.out.cell (World.block_lt_of_cell? w _ hw125_1)).trans hw125_1), ((HB.out.cell (World.block_lt_of_cell? w _ hw125_2)).trans hw125_2)⟩ (fun hHeld => ?_)
            clear hK K
            refine norm_ (a' := ?_) ?_ ?_
            rotate_left
            · show Act.put _ (some 29) _ = _
              simp only [Act.put, List.setIfInBounds_toArray, List.set_cons_zero, List.set_cons_succ, i64_w, i32_w]
              rfl
            refine pure_ (i := 19) (N := some 3) (v := ?_) (a' := ?_) #[true, true, true, true, true, true, true, true, true, true, true, true, true, true, true, true, true, true, true, true] rfl rfl (any_of HT_.out (by kernel_rfl)) (fun _ _ _ h => h) (Or.inl ⟨by rfl, ?_⟩) ?_ ?_
            rotate_left
            · intro w'
              go_simp
              with_reducible rfl
            rotate_left
            · simp only [Act.put, List.setIfInBounds_toArray, List.set_cons_zero, List.set_cons_succ, i64_w, i32_w]
              rfl
            refine done_ (done_of HT_.out (by kernel_rfl)) ?_
            try go_wp2
            go_roundg k1
            case measure => have := HK1.out; omega
            case rel => exact ⟨(y126), (wrap64 (x4_1 + 1)), (by first | rfl | (simp; done) | (simp [*]; done)), H', ⟨by have := HK1.out; omega⟩, ⟨by (with_reducible repeat (first | apply Kd.R_alloc | apply Kd.R_drewN | apply Kd.R_drew)); exact HO128.out⟩, ⟨by repeat (first | (with_reducible first | exact HB.out | apply below_alloc | apply pw_below_drewN | apply below_drew1) | exact HB.out)⟩⟩
          · rw [if_neg c4] at H
            exact absurd H (by simp)
        · rw [if_neg c3] at H
          exact absurd H (by simp)
      · rw [if_neg c2] at H
        have c2b0 : decide (x4_1 < (l0.length : Int)) = false := decide_eq_false c2
        clear c2
        obtain rfl := Option.some.inj H
        go_wp2
        go_ret
        exact ⟨_, by first | rfl | (simp [errW_none, errW_some] <;> rfl) | (simp [*, errW_none, errW_some] <;> rfl), by (with_reducible repeat (first | apply Kd.R_alloc | apply Kd.R_drewN | apply Kd.R_drew)); exact HO_3.out, by repeat (first | (with_reducible first | exact HB.out | apply below_alloc | apply pw_below_drewN | apply below_drew1) | exact HB.out)⟩

-- NOT PRINTED: function 77 (ticket_Ticket_77)

/-! ### ticket_Live: function 40 (by hand) -/
/-- Cells behind the first m elements of an own row are written: these stay. -/
theorem R_clear {α : Type} {d : Kd α} {e base n cap g : Nat} {w : World} {ok : Nat → Prop} {xs : List α} (h : d.R e w base ok (.slice (some ⟨g, 0, none⟩) n cap) xs) (m : Nat) (hm : m ≤ n) (seg : List Value) (off : Nat) (hoff : m * d.sz ≤ off) (hfit : off + seg.length ≤ n * d.sz) :
    d.R e (w.setCells g off seg) base ok (.slice (some ⟨g, 0, none⟩) m cap) (xs.take m) ∧ w.grownBy (w.setCells g off seg) (some g) := by
  have hn := (Kd.R_reads' h).1
  have hnc := (Kd.R_reads' h).2.1
  obtain ⟨hok, inner, ho, hr⟩ := Kd.R_take h (m := m) (by omega)
  obtain ⟨ho1, ho2⟩ := ho
  rcases ho2 with ⟨hv, _⟩ | ⟨g', cap', cur, hv, hb, hh, hnc', hcm, hcs, ht⟩
  · cases hv
  injection hv with ha _ hc
  injection ha with ha
  injection ha with hg
  subst hg; subst hc
  have hcap : n * d.sz ≤ cap * d.sz := Nat.mul_le_mul_right _ hnc
  obtain ⟨cur', h3, h4, h5⟩ := setCells_row seg off w cur hh (by omega)
  obtain ⟨s1, s2, s3, s4⟩ := setCells_same g seg off w
  have hfar : ∀ k, k ≠ g → (w.setCells g off seg).heap[k]? = w.heap[k]? := fun k hk => setCells_far seg _ k hk
  have hl : (xs.take m).length = m := by rw [List.length_take]; omega
  refine ⟨⟨hok, inner, ⟨ho1, .inr ⟨g, cap, cur', by rw [hl], hb, h3, hnc', hcm, by rw [h4, hcs], ?_⟩⟩, hr.1, fun j p hj => Kd.M_step (hr.2 j p hj) (fun k hk _ => hfar k (fun e => hk.2 (by rw [e]; rfl)))⟩,
    ⟨s1, s2, s3, by rw [s4]; exact Nat.le_refl _, fun k _ hk => hfar k (fun he => hk (by rw [he]))⟩⟩
  rw [← ht, h5, hl, List.append_assoc, List.take_append_of_le_length (by rw [List.length_take, Array.length_toList]; omega), List.take_take, Nat.min_eq_left hoff]
set_option maxHeartbeats 8000000 in
set_option maxRecDepth 100000 in
theorem ticket_Live_1.calls (now : Int) (B : Nat) (W : World) (hB : B < W.heap.size) (hc : W.cell? ⟨B, 0, none⟩ = some (.int .i64 now)) (x : S69) :
    Calls Try.prog 79 (#[.agg #[.int .i64 x.f0, .int .i64 x.f1, .int .i64 x.f2]] ++ #[.pointer (some ⟨B, 0, none⟩)]) W fun e w' => e = .returned (.bool (decide (x.f2 < now))) ∧ Below W.heap.size W w' := by
  have hne : B ≠ W.heap.size := by omega
  show Calls Try.prog 79 #[.agg #[.int .i64 x.f0, .int .i64 x.f1, .int .i64 x.f2], .pointer (some ⟨B, 0, none⟩)] W _
  go_enter Try.func79, Try.ntmps79
  go_wp2
  all_goals (go_ret; exact ⟨by first | rfl | simp_all, by repeat (first | exact Below.refl _ _ | apply Below.drew | refine Below.alloc ?_ (Nat.le_refl _) _)⟩)
theorem idxOf_none (p : S69 → Bool) : ∀ (l : List S69) (i : Int), 0 ≤ i → idxOf p l i < 0 → l.filter (fun x => !p x) = l
  | [], _, _, _ => rfl
  | x :: t, i, h0, h => by
    unfold idxOf at h
    split at h
    · omega
    · rename_i hp
      rw [List.filter_cons_of_pos (by simpa using hp), idxOf_none p t (i + 1) (by omega) h]
theorem idxOf_m1 (p : S69 → Bool) : ∀ (l : List S69) (i : Int), 0 ≤ i → idxOf p l i < 0 → idxOf p l i = -1
  | [], _, _, _ => rfl
  | x :: t, i, h0, h => by
    unfold idxOf at h ⊢
    split at h
    · omega
    · rename_i hp
      rw [if_neg hp]
      exact idxOf_m1 p t (i + 1) (by omega) h
theorem idxOf_some (p : S69 → Bool) : ∀ (l : List S69) (i : Int), 0 ≤ i → 0 ≤ idxOf p l i → ∃ k : Nat, idxOf p l i = i + k ∧ k < l.length ∧ (l.take k).filter (fun x => !p x) = l.take k ∧ (l.take (k + 1)).filter (fun x => !p x) = l.take k
  | [], i, _, h => by
    unfold idxOf at h
    omega
  | x :: t, i, h0, h => by
    unfold idxOf at h ⊢
    by_cases hp : p x = true
    · refine ⟨0, by rw [if_pos hp]; omega, by simp, rfl, ?_⟩
      simp [hp]
    · rw [if_neg hp] at h ⊢
      obtain ⟨k, h1, h2, h3, h4⟩ := idxOf_some p t (i + 1) (by omega) h
      have hq : (!p x) = true := by simpa using hp
      refine ⟨k + 1, by omega, by simp; omega, ?_, ?_⟩
      · rw [List.take_succ_cons, List.filter_cons, if_pos hq, h3]
      · rw [List.take_succ_cons, List.filter_cons, if_pos hq, h4, List.take_succ_cons]
set_option maxHeartbeats 8000000 in
set_option maxRecDepth 100000 in
theorem ticket_Live_delete.calls (now : Int) (B gb n cap base : Nat) (xs : List S69) (w : World) (HO : Kd.R k69 69 w base (fun _ => True) (.slice (some ⟨gb, 0, none⟩) n cap) xs) (hB : B < w.heap.size) (hne : B ≠ gb) (hcell : w.cell? ⟨B, 0, none⟩ = some (.int .i64 now)) :
    Calls Try.prog 77 #[.slice (some ⟨gb, 0, none⟩) n cap, .func (.func 79) #[] #[.pointer (some ⟨B, 0, none⟩)]] w fun e w' => ∃ v : Value, e = .returned v ∧ Kd.R k69 69 w' base (fun _ => True) v (xs.filter (fun x => !decide (x.f2 < now))) ∧ Below base w w' := by
  have hu69 := Try.underlying69
  have hnl : n = xs.length := (Kd.R_reads' HO).1
  have hnc : n ≤ cap := (Kd.R_reads' HO).2.1
  have hmax : xs.length ≤ 9223372036854775807 := (Kd.R_reads' HO).2.2.2.1
  have hbg : base ≤ gb := Kd.R_base HO gb (by simp [Value.ownBlock])
  have hbs : gb < w.heap.size := by
    obtain ⟨_, inner, hown, _⟩ := HO
    obtain ⟨cells, hc⟩ := own_typed hown gb (by simp [Value.ownBlock])
    exact (Array.getElem?_eq_some_iff.1 hc).1
  have eg : ∀ args w, (callFunc 79 args).run Try.prog w = .ok (.enter 79 args) w := enters_of Try.func79 (by kernel_rfl) rfl
  have hcon := ticket_Ticket_79.calls #[.pointer (some ⟨B, 0, none⟩)] (fun x => decide (x.f2 < now)) eg (some ⟨gb, 0, none⟩) cap xs w (Kd.R_reads' HO).2.2 hmax (fun W x hb => (ticket_Live_1.calls now B W (Nat.lt_of_lt_of_le hB hb.size) ((hb.cell (p := ⟨B, 0, none⟩) hB).trans hcell) x).mono fun e w' h => ⟨h.1, hb.trans (h.2.mono hb.size)⟩)
  subst hnl
  have hrg := idxOf_rng (fun x => decide (x.f2 < now)) xs 0 (by omega)
  have hno := idxOf_none (fun x => decide (x.f2 < now)) xs 0 (by omega)
  have hso := idxOf_some (fun x => decide (x.f2 < now)) xs 0 (by omega)
  have hm1 := idxOf_m1 (fun x => decide (x.f2 < now)) xs 0 (by omega)
  generalize idxOf (fun x => decide (x.f2 < now)) xs 0 = i0 at hcon hrg hno hso hm1
  by_cases c1 : i0 < 0
  · obtain rfl := hm1 c1
    rw [hno c1]
    have HO1 := Aside0.mk HO
    clear HO hno hso hm1 hrg hcell
    go_enter Try.func77, Try.ntmps77
    go_wp2_with (go_at_call 75; refine hcon.mono ?_; rintro e w1 ⟨rfl, hb⟩)
    go_ret
    exact ⟨_, rfl, Kd.R_below HO1.out hb, hb.mono (by omega)⟩
  · obtain ⟨k0, hk, hk2, ht1, ht2⟩ := hso (by omega)
    obtain rfl : i0 = (k0 : Int) := by omega
    have bm : ((k0 : Int) == -1) = false := beq_eq_false_iff_ne.2 (by omega)
    have HO1 := Aside0.mk HO
    have HT1 := Aside0.mk ht1
    have HT2 := Aside0.mk ht2
    have HK2 := Aside0.mk hk2
    have HBS := Aside0.mk hbs
    have HBG := Aside0.mk hbg
    have HC := Aside0.mk hcell
    have HNE := Aside0.mk hne
    have HBW := Aside0.mk hB
    have HMX := Aside0.mk hmax
    have HNC := Aside0.mk hnc
    clear HO hno hso hm1 hrg hcell ht1 ht2 hk c1 hmax
    go_enter Try.func77, Try.ntmps77
    go_wp2_with (go_at_call 75; refine hcon.mono ?_; rintro e w1 ⟨rfl, hb⟩; have HB1 := Aside0.mk hb; clear hb)
    go_loopg [5, 6] xs.length (fun gg v5 v6 wr => ∃ (i j : Int) (cur : List S69), v5 = .int .i64 i ∧ v6 = .int .i64 j ∧ Aside0 (0 ≤ i ∧ i < j ∧ j ≤ (xs.length : Int)) ∧ Aside0 (((xs.length : Int) - j).toNat ≤ gg) ∧ Aside0 (cur.take i.toNat = (xs.take j.toNat).filter (fun x => !decide (x.f2 < now))) ∧ Aside0 (cur.drop j.toNat = xs.drop j.toNat) ∧ Aside0 (Kd.R k69 69 wr base (fun _ => True) (.slice (some ⟨gb, 0, none⟩) xs.length cap) cur) ∧ Aside0 (Below base w wr) ∧ Aside0 (B < wr.heap.size) ∧ Aside0 (wr.cell? ⟨B, 0, none⟩ = some (.int .i64 now)))
    case atStart =>
      have hw : wrap64 ((k0 : Int) + 1) = (k0 : Int) + 1 := by have := HK2.out; have := HMX.out; unfold wrap64; omega
      have h1 := HK2.out
      exact ⟨(k0 : Int), wrap64 ((k0 : Int) + 1), xs, rfl, (by first | rfl | (simp; done) | (simp [*]; done)), ⟨by rw [hw]; omega⟩, ⟨by rw [hw]; omega⟩, ⟨by rw [hw, show ((k0 : Int) + 1).toNat = k0 + 1 by omega, Int.toNat_natCast]; exact HT2.out.symm⟩, ⟨rfl⟩, ⟨Kd.R_below HO1.out HB1.out⟩, ⟨HB1.out.mono (Nat.le_trans HBG.out (Nat.le_of_lt HBS.out))⟩, ⟨Nat.lt_of_lt_of_le HBW.out HB1.out.size⟩, ⟨(HB1.out.cell (p := ⟨B, 0, none⟩) HBW.out).trans HC.out⟩⟩
    case round =>
      obtain ⟨i, j, cur, rfl, rfl, HX, HG, HI, HD, HR, HB, HBr, HCr⟩ := hrel
      have hlen : xs.length = cur.length := (Kd.R_reads' HR.out).1
      have HL := Aside0.mk hlen
      by_cases hlt : j < (xs.length : Int)
      · have b0 : decide (j < (xs.length : Int)) = true := decide_eq_true hlt
        have hx := HX.out
        obtain ⟨c, hcl, hM0, hcc, hfr⟩ := Kd.R_elem HR.out z69 j (by omega) hlt
        obtain rfl := k69_openM hM0
        have hx0 : wr.cell? ⟨gb, j.toNat * 3, none⟩ = some (.int .i64 (cur.getD j.toNat z69).f0) := hcc 0 _ rfl
        have hx1 : wr.cell? ⟨gb, j.toNat * 3 + 1, none⟩ = some (.int .i64 (cur.getD j.toNat z69).f1) := hcc 1 _ rfl
        have hx2 : wr.cell? ⟨gb, j.toNat * 3 + 2, none⟩ = some (.int .i64 (cur.getD j.toNat z69).f2) := hcc 2 _ rfl
        have hjl : j.toNat < xs.length := by omega
        have hjc : j.toNat < cur.length := by omega
        have hy : cur.getD j.toNat z69 = xs[j.toNat] := by
          have h1 : (cur.drop j.toNat)[0]? = (xs.drop j.toNat)[0]? := by rw [HD.out]
          rw [List.getElem?_drop, List.getElem?_drop, Nat.add_zero, List.getElem?_eq_getElem hjl, List.getElem?_eq_getElem hjc] at h1
          rw [List.getD_eq_getElem?_getD, List.getElem?_eq_getElem hjc]
          exact Option.some.inj h1
        have HF := Aside0.mk (show (xs.take (j.toNat + 1)).filter (fun x => !decide (x.f2 < now)) = cur.take i.toNat ++ (if (!decide ((cur.getD j.toNat z69).f2 < now)) = true then [cur.getD j.toNat z69] else []) from by
          rw [← List.take_append_getElem hjl, List.filter_append, HI.out, hy]
          congr 1
          simp only [List.filter_cons, List.filter_nil])
        have HD2 := Aside0.mk (show cur.drop (j.toNat + 1) = xs.drop (j.toNat + 1) from by rw [← List.drop_drop, HD.out, List.drop_drop])
        have px : (0 ≤ j) = True := eq_true (by omega)
        have qx : (j < (xs.length : Int)) = True := eq_true hlt
        have HJ := Aside0.mk hlt
        clear hcc hfr hM0 hcl hjl hjc hy hlt hx hlen
        generalize cur.getD j.toNat z69 = y at hx0 hx1 hx2 HF
        obtain ⟨W2, hW2⟩ : ∃ W2, W2 = wr.alloc (.cells #[.int .i64 y.f0, .int .i64 y.f1, .int .i64 y.f2] 69) := ⟨_, rfl⟩
        have hBl : Below wr.heap.size wr W2 := by
          rw [hW2]
          exact (Below.refl wr.heap.size wr).alloc (Nat.le_refl _) _
        have hz0 : W2.cell? ⟨wr.heap.size, 0, none⟩ = some (.int .i64 y.f0) := by rw [hW2]; simp
        have hz1 : W2.cell? ⟨wr.heap.size, 1, none⟩ = some (.int .i64 y.f1) := by rw [hW2]; simp
        have hz2 : W2.cell? ⟨wr.heap.size, 2, none⟩ = some (.int .i64 y.f2) := by rw [hW2]; simp
        have hzs : wr.heap.size < W2.heap.size := by rw [hW2]; simp
        have hcl := ticket_Live_1.calls now B W2 (Nat.lt_of_lt_of_le HBr.out hBl.size) ((hBl.cell (p := ⟨B, 0, none⟩) HBr.out).trans HCr.out) y
        have HBl := Aside0.mk hBl
        have HZ0 := Aside0.mk hz0
        have HZ1 := Aside0.mk hz1
        have HZ2 := Aside0.mk hz2
        have HZS := Aside0.mk hzs
        clear hBl hz0 hz1 hz2 hzs
        subst hW2
        cases hq : decide (y.f2 < now) with
        | true =>
          rw [hq] at hcl
          go_wp2_with (go_at_call 79; refine hcl.mono ?_; rintro e w3 ⟨rfl, hb3⟩; have HB3 := Aside0.mk hb3; clear hb3)
          go_roundg (((xs.length : Int) - (j + 1)).toNat)
          case measure => have := HG.out; have := HJ.out; have := HX.out; omega
          case rel =>
            have hw : wrap64 (j + 1) = j + 1 := by have := HJ.out; have := HX.out; have := HMX.out; unfold wrap64; omega
            have h1 := HX.out
            have h2 := HJ.out
            have hb := HBl.out.trans (HB3.out.mono HBl.out.size)
            refine ⟨i, wrap64 (j + 1), cur, rfl, (by first | rfl | (simp; done) | (simp [*]; done)), ⟨by rw [hw]; omega⟩, ⟨by rw [hw]; exact Nat.le_refl _⟩, ⟨?_⟩, ⟨?_⟩, ⟨Kd.R_below HR.out hb⟩, ⟨HB.out.trans (hb.mono (Nat.le_trans (Nat.le_trans HBG.out (Nat.le_of_lt HBS.out)) HB.out.size))⟩, ⟨Nat.lt_of_lt_of_le HBr.out hb.size⟩, ⟨(hb.cell (p := ⟨B, 0, none⟩) HBr.out).trans HCr.out⟩⟩
            · rw [hw, show (j + 1).toNat = j.toNat + 1 by omega, HF.out, hq]
              simp
            · rw [hw, show (j + 1).toNat = j.toNat + 1 by omega]
              exact HD2.out
        | false =>
          rw [hq] at hcl
          have hx := HX.out
          have hjn := HJ.out
          have pi : (0 ≤ i) = True := eq_true (by omega)
          have qi : (i < (xs.length : Int)) = True := eq_true (by omega)
          have HI0 := Aside0.mk (show 0 ≤ i ∧ i < (xs.length : Int) from by omega)
          clear hx hjn
          go_wp2_with (first | (go_at_call 79; refine hcl.mono ?_; rintro e w3 ⟨rfl, hb3⟩; have HB3 := Aside0.mk hb3; have hy0 := (hb3.cell (p := ⟨wr.heap.size, 0, none⟩) HZS.out).trans HZ0.out; have hy1 := (hb3.cell (p := ⟨wr.heap.size, 1, none⟩) HZS.out).trans HZ1.out; have hy2 := (hb3.cell (p := ⟨wr.heap.size, 2, none⟩) HZS.out).trans HZ2.out; have HR3 := Aside0.mk (Kd.R_below HR.out (HBl.out.trans (hb3.mono HBl.out.size))); have HW3 := Aside0.mk (HB.out.trans ((HBl.out.trans (hb3.mono HBl.out.size)).mono (Nat.le_trans (Nat.le_trans HBG.out (Nat.le_of_lt HBS.out)) HB.out.size))); clear hb3) | ((with_reducible refine gate_store (t := 69) (p := 33) rfl ?_); obtain ⟨c, hcl, hM0, hcc, _⟩ := Kd.R_elem HR3.out z69 i HI0.out.1 HI0.out.2; refine Kd.R_store k69 (w0 := w) base rfl rfl 69 (.tmp 33) (.tmp 32) rfl 69 (g := gb) (n := xs.length) (cap := cap) (o' := i.toNat * 3) i 0 cur y (.agg #[.int .i64 y.f0, .int .i64 y.f1, .int .i64 y.f2]) [.int .i64 y.f0, .int .i64 y.f1, .int .i64 y.f2] c (fun _ => True) (fun k => k ≠ gb) rfl rfl rfl rfl ?ht ?h1 HR3.out HI0.out.1 HI0.out.2 hcl hcc (show 3 ≤ 3 from Nat.le_refl _) ?hM (fun k hk => ⟨trivial, hk⟩) HW3.out ?_; (case ht => rfl); (case h1 => intro q hq_; simp at hq_; rcases hq_ with rfl | rfl | rfl <;> rfl); (case hM => rw [List.drop_of_length_le (by rw [hcl]; exact Nat.le_refl _), List.append_nil]; exact k69_mkM _ _ _ _); clear hcl hM0 hcc; intro w4 hR4 hb4 hg4; have HR4 := Aside0.mk hR4; have HB4 := Aside0.mk hb4; have HG4 := Aside0.mk hg4; clear hR4 hb4 hg4))
          go_roundg (((xs.length : Int) - (j + 1)).toNat)
          case measure => have := HG.out; have := HJ.out; have := HX.out; omega
          case rel =>
            have hw : wrap64 (j + 1) = j + 1 := by have := HJ.out; have := HX.out; have := HMX.out; unfold wrap64; omega
            have hwi : wrap64 (i + 1) = i + 1 := by have := HI0.out; have := HMX.out; unfold wrap64; omega
            have h1 := HX.out
            have h2 := HJ.out
            have h3 := HI0.out
            have h4 := HL.out
            have hb := HBl.out.trans (HB3.out.mono HBl.out.size)
            refine ⟨wrap64 (i + 1), wrap64 (j + 1), cur.set i.toNat y, (by first | rfl | (simp; done) | (simp [*]; done)), (by first | rfl | (simp; done) | (simp [*]; done)), ⟨by rw [hw, hwi]; omega⟩, ⟨by rw [hw]; exact Nat.le_refl _⟩, ⟨?_⟩, ⟨?_⟩, ⟨HR4.out⟩, ⟨HB4.out⟩, ⟨?_⟩, ⟨?_⟩⟩
            · rw [hw, hwi, show (j + 1).toNat = j.toNat + 1 by omega, show (i + 1).toNat = i.toNat + 1 by omega, HF.out, hq, if_pos (by rfl)]
              rw [List.take_add_one, List.take_set_of_le (Nat.le_refl _), List.getElem?_set_self (by omega)]
              rfl
            · rw [hw, show (j + 1).toNat = j.toNat + 1 by omega, List.drop_set_of_lt (by omega)]
              exact HD2.out
            · exact Nat.lt_of_lt_of_le (Nat.lt_of_lt_of_le HBr.out hb.size) HG4.out.size
            · have h5 := (hb.cell (p := ⟨B, 0, none⟩) HBr.out).trans HCr.out
              have h6 : w4.heap[B]? = w3.heap[B]? := HG4.out.block B (Nat.lt_of_lt_of_le HBr.out hb.size) (fun e => HNE.out (Option.some.inj e))
              simp only [World.cell?] at h5 ⊢
              rw [h6]
              exact h5
      · have b0 : decide (j < (xs.length : Int)) = false := decide_eq_false hlt
        have hx := HX.out
        obtain rfl : j = (xs.length : Int) := by omega
        have pi : (0 ≤ i) = True := eq_true (by omega)
        have qi : (i ≤ (xs.length : Int)) = True := eq_true (by omega)
        have hrc := R_clear HR.out i.toNat (by omega) (List.replicate ((xs.length - i.toNat) * 3) (.int .i64 0)) (i.toNat * 3) (Nat.le_refl _) (by rw [List.length_replicate]; show i.toNat * 3 + (xs.length - i.toNat) * 3 ≤ xs.length * 3; omega)
        obtain ⟨i0i, hi0, hz0, hsz0, hbt0⟩ := info_parts info69
        have hil : i.toNat < xs.length := by omega
        have hcf := cut_from (P := Try.prog) 60 69 .i64 Try.underlying60 hi0 3 hsz0 (some ⟨gb, 0, none⟩) xs.length cap i (by omega) (by omega)
        rw [if_neg (show ¬ cap = i.toNat by have := HNC.out; omega), show (some (⟨gb, 0, none⟩ : Addr)).map (·.add (i.toNat * 3)) = some ⟨gb, i.toNat * 3, none⟩ from by rw [Option.map_some, add_plain]] at hcf
        have hct := cut_to (P := Try.prog) 60 69 .i64 Try.underlying60 hi0 (some ⟨gb, 0, none⟩) xs.length cap i (by omega) (by omega) HNC.out
        have hclr : ∀ ty, (Builtin.clear_ #[60] ty #[.slice (some ⟨gb, i.toNat * 3, none⟩) (xs.length - i.toNat) (cap - i.toNat)]).run Try.prog wr = .ok (.tuple #[]) (wr.setCells gb (i.toNat * 3) (List.replicate ((xs.length - i.toNat) * 3) (.int .i64 0))) := by
          obtain ⟨_, inner, hown, _⟩ := HR.out
          rcases hown.2 with ⟨hv, _⟩ | ⟨g', cap', cr, hv, hb, hh, hnc', hcm, hcs, _⟩
          · cases hv
          injection hv with ha _ hc
          injection ha with ha
          injection ha with hg
          subst hg; subst hc
          have hsz : cr.size = cap * 3 := hcs
          have hnc2 := HNC.out
          have hzc : (Builtin.zeroCells (Value.agg #[.int .i64 0, .int .i64 0, .int .i64 0]).cells (xs.length - i.toNat)).toList = List.replicate ((xs.length - i.toNat) * 3) (.int .i64 0) := by
            apply List.ext_getElem
            · simp [Builtin.zeroCells, Value.cells]
            · intro k h1 h2
              have h3 : k % 3 = 0 ∨ k % 3 = 1 ∨ k % 3 = 2 := by omega
              rcases h3 with h3 | h3 | h3 <;> simp [Builtin.zeroCells, Value.cells, h3]
          have hst := run_storeCells_cells (P := Try.prog) gb (i.toNat * 3) (List.replicate ((xs.length - i.toNat) * 3) (.int .i64 0)) 0 wr (fun j hj => by
            rw [List.length_replicate] at hj
            rw [cell_of_row wr gb _ cr 69 (0, 0) hh, Array.getElem?_eq_getElem (by omega)]
            rfl) (fun j hj => blk_frozen hh _) (by intro v hv'; rw [List.eq_of_mem_replicate hv']; rfl)
          simp only [Nat.add_zero] at hst
          obtain ⟨m, hm⟩ : ∃ m, xs.length - i.toNat = m + 1 := ⟨xs.length - i.toNat - 1, by omega⟩
          rw [hm] at hzc hst ⊢
          simp [Builtin.clear_, run_underlying Try.underlying60, Try.zeroValue69, hzc, hst]
        have HRC := Aside0.mk hrc
        have HX2 := Aside0.mk (show base ≤ gb from HBG.out)
        clear hrc hil hx hlen hnc hk2
        go_wp2
        go_ret
        refine ⟨_, rfl, ?_, ?_⟩
        · have h1 := HRC.out.1
          rw [HI.out, Int.toNat_natCast, List.take_length] at h1
          exact h1
        · refine HB.out.trans ⟨HRC.out.2.os, HRC.out.2.tape, HRC.out.2.output, HRC.out.2.size, fun k hk => ?_⟩
          rcases Nat.lt_or_ge k wr.heap.size with h1 | h1
          · exact HRC.out.2.block k h1 (fun e => by have := Option.some.inj e; omega)
          · exact setCells_far _ _ k (by omega)
def ticket_Live.f (l0 : List S69) (a1 : Int) : Option (List S69) := if l0.length < 5864062014805 then some (l0.filter (fun x => !decide (x.f2 < a1))) else none
set_option maxHeartbeats 8000000 in
set_option maxRecDepth 100000 in
theorem ticket_Live.calls (A0 : Option Addr) (c0 : Nat) (l0 : List S69) (a1 : Int) (r : List S69) (w : World) (hr0 : Kd.C k69 w A0 l0.length l0) (hc0 : l0.length ≤ c0) (h : ticket_Live.f l0 a1 = some r) :
    Calls Try.prog 40 #[.slice A0 l0.length c0, .int .i64 a1] w fun e w' => ∃ v0_ : Value, e = .returned v0_ ∧ Kd.R k69 69 w' w.heap.size (fun _ => True) v0_ r ∧ Below w.heap.size w w' := by
  unfold ticket_Live.f at h
  split at h
  · rename_i hlim
    obtain rfl := Option.some.inj h
    clear h
    have hm := hr0.2.1
    have hmf : ∀ (fn : Fn) (first cap : Array Value) (w : World), (Instr.makeFunc fn first cap).run Try.prog w = .ok (.func fn first cap) w := fun _ _ _ _ => rfl
    have eg : ∀ args w, (callFunc 79 args).run Try.prog w = .ok (.enter 79 args) w := enters_of Try.func79 (by kernel_rfl) rfl
    have hcl := ticket_Ticket_78.calls A0 c0 l0 l0 (w.alloc (.cells #[.int .i64 a1] 3)) (Kd.C_alloc hr0 _) hc0 (by unfold ticket_Ticket_78.f; rw [if_pos hlim])
    have HB0 := Aside0.mk ((Below.refl w.heap.size w).alloc (Nat.le_refl _) (.cells #[.int .i64 a1] 3))
    have hs : (w.alloc (.cells #[.int .i64 a1] 3)).heap.size = w.heap.size + 1 := by simp
    have hcellB : (w.alloc (.cells #[.int .i64 a1] 3)).cell? ⟨w.heap.size, 0, none⟩ = some (.int .i64 a1) := by simp
    have HS := Aside0.mk hs
    have HCB := Aside0.mk hcellB
    clear hr0 hc0 hlim hs hcellB
    have key : ∀ (v : Value) (w1 : World), Kd.R k69 69 w1 (w.heap.size + 1) (fun _ => True) v l0 → Below (w.heap.size + 1) (w.alloc (.cells #[.int .i64 a1] 3)) w1 → Calls Try.prog 77 #[v, .func (.func 79) #[] #[.pointer (some ⟨w.heap.size, 0, none⟩)]] w1 fun e w' => ∃ v : Value, e = .returned v ∧ Kd.R k69 69 w' w.heap.size (fun _ => True) v (l0.filter (fun x => !decide (x.f2 < a1))) ∧ Below w.heap.size w w' := by
      intro v w1 hR hb
      have hcell1 : w1.cell? ⟨w.heap.size, 0, none⟩ = some (.int .i64 a1) := (hb.cell (p := ⟨w.heap.size, 0, none⟩) (Nat.lt_succ_self _)).trans HCB.out
      have hlt1 : w.heap.size < w1.heap.size := by have := hb.size; rw [HS.out] at this; omega
      have hbw : Below w.heap.size w w1 := HB0.out.trans (hb.mono (Nat.le_succ _))
      obtain ⟨_, inner, hown, hrep⟩ := hR
      rcases hown.2 with ⟨hv, hn0⟩ | ⟨g', cap', cr, hv, hb', hh, _⟩
      · subst hv
        have hl0 : l0 = [] := List.length_eq_zero_iff.1 hn0
        subst hl0
        have hcon := ticket_Ticket_79.calls #[.pointer (some ⟨w.heap.size, 0, none⟩)] (fun x => decide (x.f2 < a1)) eg none 0 [] w1 (Kd.C_nil _ _) (by simp) (fun W x hb => (ticket_Live_1.calls a1 w.heap.size W (Nat.lt_of_lt_of_le hlt1 hb.size) ((hb.cell (p := ⟨w.heap.size, 0, none⟩) hlt1).trans hcell1) x).mono fun e w' h => ⟨h.1, hb.trans (h.2.mono hb.size)⟩)
        have hi : idxOf (fun x : S69 => decide (x.f2 < a1)) [] 0 = -1 := rfl
        rw [hi] at hcon
        simp only [List.length_nil] at hcon
        have HBW := Aside0.mk hbw
        have HL1 := Aside0.mk hlt1
        clear hbw hcell1 hlt1 hb
        go_enter Try.func77, Try.ntmps77
        go_wp2_with (go_at_call 75; refine hcon.mono ?_; rintro e w2 ⟨rfl, hb2⟩)
        go_ret
        exact ⟨_, rfl, Kd.R_nil _ _ _ _ _, HBW.out.trans (hb2.mono (Nat.le_of_lt HL1.out))⟩
      · subst hv
        have hR : Kd.R k69 69 w1 (w.heap.size + 1) (fun _ => True) (.slice (some ⟨g', 0, none⟩) l0.length cap') l0 := ⟨fun _ _ => trivial, inner, hown, hrep⟩
        refine (ticket_Live_delete.calls a1 w.heap.size g' l0.length cap' (w.heap.size + 1) l0 w1 hR hlt1 (by omega) hcell1).mono ?_
        rintro e w' ⟨v, rfl, hR2, hb2⟩
        exact ⟨v, rfl, Kd.R_lower hR2 (Nat.le_succ _), hbw.trans (hb2.mono (Nat.le_succ _))⟩
    have KEY := Aside0.mk key
    clear key
    go_enter Try.func40, Try.ntmps40
    go_wp2_with (first | (go_at_call 78; refine hcl.mono ?_; rintro e w1 ⟨v, rfl, hR, hb⟩; rw [HS.out] at hR hb; have hk := KEY.out v w1 hR hb; clear hR hb) | (go_at_call 77; refine hk.mono ?_; rintro e w2 ⟨v2, rfl, hR2, hb2⟩))
    go_ret
    exact ⟨_, rfl, hR2, hb2⟩
  · cases h

end Go.Proofs.Ythcpfkkddfgamaa.PF26I
