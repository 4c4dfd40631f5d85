/- By a program of this session (wip/tool/pp.py): plain Lean functions of the Go functions that this family of laws uses, the walks that the Go code comes to their answers, and the row of the law. No condition beside those that the row itself gives. -/
import Derived.Test.YtgnbhomdkchcfaaDoorPF15Px0
import Derived.Test.YtgnbhomdkchcfaaDoorPF15Px2
import Derived.Test.YtgnbhomdkchcfaaDoorPF15Px3
namespace Go.Proofs.YtgnbhomdkchcfaaDoor.PF15P
open Go.RowKit Go.Proofs.YtgnbhomdkchcfaaDoorW.Hand Go.Proofs.YtgnbhomdkchcfaaDoorW.PrintWords Go.Proofs.YtgnbhomdkchcfaaDoorW.PrintLast Go.Proofs.YtgnbhomdkchcfaaDoorW.PrintMore
attribute [local go_sem] max2_int min2_int max_two min_two max_three min_three max_four min_four   -- for this text's walks alone
set_option linter.unusedVariables false
set_option linter.unusedSimpArgs false

/-! ### batonlaw15_awake: function 5, with (*Lines).Push, Line, Text, Len, Lost (by hand) -/

/-- The lines that went off, as they lie in memory. -/
structure BSt (B g h M : Nat) (first n lost : Nat) (ring : List (List S28)) (rv : Value) (w : World) : Prop where
  rvf : ∃ A c, rv = .slice A M c ∧ (0 < M → A = some ⟨h, 0, none⟩)
  blk : w.heap[g]? = some (.cells #[rv, .int .i64 (first : Int), .int .i64 (n : Int), .int .i64 (lost : Int)] 47 (0, 0))
  len : ring.length = M
  gh : B ≤ g ∧ (0 < M → B ≤ h ∧ g ≠ h)
  rows : 0 < M → ∃ cells : Array Value, w.heap[h]? = some (.cells cells 22 (0, 0)) ∧ M ≤ cells.size ∧ ∀ i (hi : i < ring.length), ∃ A c, cells[i]? = some (.slice A ring[i].length c) ∧ ring[i].length ≤ c ∧ Kd.F k28 w (fun k => k ≠ g ∧ k ≠ h) A ring[i].length ring[i]
section
variable {B g h M first n lost : Nat} {ring : List (List S28)} {rv : Value} {w w1 : World}
theorem BSt.below (s : BSt B g h M first n lost ring rv w) (hb : Below w.heap.size w w1) : BSt B g h M first n lost ring rv w1 := by
  refine ⟨s.rvf, blk_below s.blk hb, s.len, s.gh, fun hM => ?_⟩
  obtain ⟨cells, h1, h2, h3⟩ := s.rows hM
  refine ⟨cells, blk_below h1 hb, h2, fun i hi => ?_⟩
  obtain ⟨A, c, e1, e2, e3⟩ := h3 i hi
  exact ⟨A, c, e1, e2, Kd.F_below e3 hb⟩
theorem BSt.drew (s : BSt B g h M first n lost ring rv w) : BSt B g h M first n lost ring rv w.drew := s.below (below_drew (Below.refl _ _))
theorem BSt.drewN (s : BSt B g h M first n lost ring rv w) (m : Nat) : BSt B g h M first n lost ring rv (w.drewN m) := s.below (pw_below_drewN (Below.refl _ _) m)
theorem BSt.cell0 (s : BSt B g h M first n lost ring rv w) : w.cell? ⟨g, 0, none⟩ = some rv := (blk_cell s.blk 0).trans rfl
theorem BSt.cell1 (s : BSt B g h M first n lost ring rv w) : w.cell? ⟨g, 1, none⟩ = some (.int .i64 (first : Int)) := (blk_cell s.blk 1).trans rfl
theorem BSt.cell2 (s : BSt B g h M first n lost ring rv w) : w.cell? ⟨g, 2, none⟩ = some (.int .i64 (n : Int)) := (blk_cell s.blk 2).trans rfl
theorem BSt.cell3 (s : BSt B g h M first n lost ring rv w) : w.cell? ⟨g, 3, none⟩ = some (.int .i64 (lost : Int)) := (blk_cell s.blk 3).trans rfl
/-- A number of the head is changed. -/
theorem BSt.set (s : BSt B g h M first n lost ring rv w) {first' n' lost' : Nat} (j : Nat) (u : Value) (hu : (#[rv, .int .i64 (first : Int), .int .i64 (n : Int), .int .i64 (lost : Int)] : Array Value).setIfInBounds j u = #[rv, .int .i64 (first' : Int), .int .i64 (n' : Int), .int .i64 (lost' : Int)]) : BSt B g h M first' n' lost' ring rv (w.setCell ⟨g, j, none⟩ u) := by
  refine ⟨s.rvf, (blk_set s.blk j u).trans (by rw [hu]), s.len, s.gh, fun hM => ?_⟩
  obtain ⟨cells, h1, h2, h3⟩ := s.rows hM
  have hgh := (s.gh.2 hM).2
  refine ⟨cells, (Below.heap_setCell w ⟨g, j, none⟩ u h (fun e => hgh e.symm)).trans h1, h2, fun i hi => ?_⟩
  obtain ⟨A, c, e1, e2, e3⟩ := h3 i hi
  exact ⟨A, c, e1, e2, Kd.F_step e3 (fun k hk _ => Below.heap_setCell w ⟨g, j, none⟩ u k hk.1)⟩
/-- A line is laid. -/
theorem BSt.lay (s : BSt B g h M first n lost ring rv w) (hM : 0 < M) {base : Nat} (hgb : g < base) (hhb : h < base) (i : Nat) (hi : i < M) {v : Value} {r : List S28} (hr : Kd.R k28 28 w base (fun _ => True) v r) : BSt B g h M first n lost (ring.set i r) rv (w.setCell ⟨h, i, none⟩ v) := by
  obtain ⟨cells, h1, h2, h3⟩ := s.rows hM
  have hgh := (s.gh.2 hM).2
  obtain ⟨A, c, rfl, hc, hf⟩ := Kd.R_V (base' := base) (Kd.R_mono (ok' := fun k => k ≠ g ∧ k ≠ h) (Kd.R_bound hr) (fun k hk => ⟨by have := hk.2.1; omega, by have := hk.2.1; omega⟩))
  refine ⟨s.rvf, (Below.heap_setCell w ⟨h, i, none⟩ _ g hgh).trans s.blk, by rw [List.length_set]; exact s.len, s.gh, fun _ => ⟨_, blk_set h1 i _, by rw [Array.size_setIfInBounds]; exact h2, fun j hj => ?_⟩⟩
  rw [List.length_set] at hj
  by_cases e : i = j
  · subst e
    refine ⟨A, c, ?_, ?_, ?_⟩
    · rw [Array.getElem?_setIfInBounds_self_of_lt (by omega), List.getElem_set_self]
    · rw [List.getElem_set_self]; exact hc
    · rw [List.getElem_set_self]; exact Kd.F_step hf (fun k hk _ => Below.heap_setCell w ⟨h, i, none⟩ _ k hk.2)
  · obtain ⟨A', c', e1, e2, e3⟩ := h3 j hj
    refine ⟨A', c', ?_, ?_, ?_⟩
    · rw [Array.getElem?_setIfInBounds_ne e, List.getElem_set_ne e]; exact e1
    · rw [List.getElem_set_ne e]; exact e2
    · rw [List.getElem_set_ne e]; exact Kd.F_step e3 (fun k hk _ => Below.heap_setCell w ⟨h, i, none⟩ _ k hk.2)
theorem BSt.lt (s : BSt B g h M first n lost ring rv w) : g < w.heap.size ∧ (0 < M → h < w.heap.size) := ⟨blk_lt s.blk, fun hM => by obtain ⟨cells, h1, _⟩ := s.rows hM; exact blk_lt h1⟩
end
def Bk14_3.T : Bool × List (List Nat × List Nat) := (true, [([], []), ([0], [0]), ([1], [1]), ([2], [2]), ([], []), ([4], [4]), ([5], [5]), ([6], [6]), ([], []), ([8], [8]), ([9], [9]), ([10], [10]), ([7, 11], [7, 11]), ([12], [12]), ([], []), ([13, 14], [13, 14]), ([], []), ([16], [16]), ([17], [17]), ([18], [18]), ([19], [19]), ([15, 20], [15, 20]), ([3, 21], [3, 21]), ([22], [22]), ([23], [23]), ([24, 24, 0, 1, 2, 3, 4, 5, 6, 7, 8, 9, 10, 11, 12, 13, 14, 15, 16, 17, 18, 19, 20, 21, 22, 23, 24], [24])])
def Bk14_3.B : List Nat := [0, 1, 3, 7, 0, 16, 48, 112, 0, 256, 768, 1792, 4080, 8176, 0, 32752, 0, 65536, 196608, 458752, 983040, 2097136, 4194303, 8388607, 16777215, 33554431]
theorem Bk14_3.tab : rtab .any (opsOf Tryd.f14 3) = Bk14_3.T := by kernel_rfl
theorem Bk14_3.bits : waitsOk Bk14_3.T.2 Bk14_3.B = true := by kernel_rfl
set_option maxHeartbeats 8000000 in
set_option maxRecDepth 100000 in
theorem BSt.Line_calls {B g h M first n lost : Nat} {ring : List (List S28)} {rv : Value} {w : World} (s : BSt B g h M first n lost ring rv w) (i : Nat) (hi : i < n) (hn : n ≤ M) (hf : first ≤ 1000) (hM : M ≤ 1000) (ix : Nat) (hix : ix = (first + n - 1 - i) % M) (ll : List S28) (hll : ring[ix]? = some ll) (hlm : ll.length < 4398046511104) :
    Calls Tryd.prog 14 #[.pointer (some ⟨g, 0, none⟩), .int .i64 (i : Int)] w fun e w' => ∃ v0 : Value, e = .returned v0 ∧ Kd.R k28 28 w' w.heap.size (fun _ => True) v0 ll ∧ Below w.heap.size w w' := by
  have hM0 : 0 < M := by omega
  obtain ⟨A0, c, rfl, hA⟩ := s.rvf
  obtain rfl := hA hM0
  obtain ⟨cells, h1, h2, h3⟩ := s.rows hM0
  have hixM : ix < M := by rw [hix]; exact Nat.mod_lt _ hM0
  have hixl : ix < ring.length := by rw [s.len]; exact hixM
  obtain ⟨A, cc, e1, e2, e3⟩ := h3 ix hixl
  have ell : ring[ix] = ll := by rw [List.getElem?_eq_getElem hixl] at hll; exact Option.some.inj hll
  rw [ell] at e1 e2 e3
  have hcell : w.cell? ⟨h, ix, none⟩ = some (.slice A ll.length cc) := by rw [cell_of_row w h ix cells 22 (0, 0) h1]; exact e1
  have HS := Aside0.mk s
  obtain ⟨zf, hzf⟩ : ∃ z : Int, z = (first : Int) := ⟨_, rfl⟩
  obtain ⟨zn, hzn⟩ : ∃ z : Int, z = (n : Int) := ⟨_, rfl⟩
  obtain ⟨zi, hzi⟩ : ∃ z : Int, z = (i : Int) := ⟨_, rfl⟩
  have hg1 := s.cell1
  have hg2 := s.cell2
  have hg0 := s.cell0
  rw [← hzf] at hg1
  rw [← hzn] at hg2
  rw [← hzi]
  have hxx : ((first + n - 1 - i : Nat) : Int) = zf + zn - 1 - zi := by omega
  have ha1 : wrap64 (zf + zn) = zf + zn := by unfold wrap64; omega
  have ha2 : wrap64 (zf + zn - 1) = zf + zn - 1 := by unfold wrap64; omega
  have ha3 : wrap64 (zf + zn - 1 - zi) = zf + zn - 1 - zi := by unfold wrap64; omega
  have hmod : Int.tmod (zf + zn - 1 - zi) (M : Int) = (ix : Int) := by rw [← hxx, ← Int.ofNat_tmod, hix]
  have hm0 := eq_false (show ¬ M = 0 by omega)
  have p1 := eq_true (show (0 : Int) ≤ (ix : Int) by omega)
  have q1 := eq_true (show (ix : Int) < (M : Int) by omega)
  have hlt : decide (zi < 0) = false := decide_eq_false (by omega)
  have hge : decide (zi ≥ zn) = false := decide_eq_false (by omega)
  have HG := Aside0.mk (show w.drew.cell? ⟨g, 0, none⟩ = some (.slice (some ⟨h, 0, none⟩) M c) ∧ w.drew.cell? ⟨g, 1, none⟩ = some (.int .i64 zf) ∧ w.drew.cell? ⟨g, 2, none⟩ = some (.int .i64 zn) ∧ w.drew.cell? ⟨h, ix, none⟩ = some (.slice A ll.length cc) from ⟨hg0, hg1, hg2, hcell⟩)
  have HG5 := Aside0.mk (fun (w5 : World) (hb : Below w.drew.heap.size w.drew w5) => (show w5.cell? ⟨g, 0, none⟩ = some (.slice (some ⟨h, 0, none⟩) M c) ∧ w5.cell? ⟨g, 1, none⟩ = some (.int .i64 zf) ∧ w5.cell? ⟨g, 2, none⟩ = some (.int .i64 zn) ∧ w5.cell? ⟨h, ix, none⟩ = some (.slice A ll.length cc) from ⟨(hb.cell (World.block_lt_of_cell? w _ hg0)).trans hg0, (hb.cell (World.block_lt_of_cell? w _ hg1)).trans hg1, (hb.cell (World.block_lt_of_cell? w _ hg2)).trans hg2, (hb.cell (World.block_lt_of_cell? w _ hcell)).trans hcell⟩))
  have HCL := Aside0.mk (fun (w4 : World) (hb : Below w.heap.size w w4) => api_Cell.calls A cc ll ll w4 (Kd.C_below (Kd.F_now e3) hb) e2 (by unfold api_Cell.f; rw [if_pos hlm]))
  clear s h1 h2 h3 e1 e2 e3 hA hixl hll ell hlm hcell hzf hzn hzi hxx hg0 hg1 hn hf hM hix hixM
  go_enter Tryd.func14, Tryd.ntmps14
  go_wp2
  clear hg2
  refine start_ (n := 26) (S := fun w' => w'.cell? ⟨g, 0, none⟩ = some (.slice (some ⟨h, 0, none⟩) M c) ∧ w'.cell? ⟨g, 1, none⟩ = some (.int .i64 zf) ∧ w'.cell? ⟨g, 2, none⟩ = some (.int .i64 zn) ∧ w'.cell? ⟨h, ix, none⟩ = some (.slice A ll.length cc)) (ds := []) #[false, false, false, false, false, false, false, false, false, false, false, false, false, false, false, false, false, false, false, false, false, false, false, false, false, false] (by kernel_rfl) rfl rfl ⟨HG.out.1, HG.out.2.1, HG.out.2.2.1, HG.out.2.2.2⟩ (fun hHeld => ?_); refine with_tabW Bk14_3.tab Bk14_3.bits (fun HT_ HW_ => ?_)
  refine pure_ (i := 0) (N := some 15) (v := ?_) (a' := ?_) #[true, false, false, false, false, false, false, false, false, false, false, false, false, false, false, false, false, false, false, false, false, false, false, false, false, false] rfl rfl (any_of HT_.out (by kernel_rfl)) (fun _ _ _ h => h) (Or.inl ⟨by rfl, ?_⟩) ?_ ?_
  rotate_left
  · intro w'
    go_simp
    with_reducible rfl
  rotate_left
  · simp only [Act.put, List.setIfInBounds_toArray, List.set_cons_zero, List.set_cons_succ, i64_w, i32_w]
    rfl
  refine pure_ (i := 1) (N := some 16) (v := ?_) (a' := ?_) #[true, true, false, false, false, false, false, false, false, false, false, false, false, false, false, false, false, false, false, false, false, false, false, false, false, false] rfl rfl (any_of HT_.out (by kernel_rfl)) (fun _ _ _ h => h) (Or.inl ⟨by rfl, ?_⟩) ?_ ?_
  rotate_left
  · intro w'
    go_simp
    with_reducible rfl
  rotate_left
  · simp only [Act.put, List.setIfInBounds_toArray, List.set_cons_zero, List.set_cons_succ, i64_w, i32_w]
    rfl
  refine pure_ (i := 2) (N := some 17) (v := ?_) (a' := ?_) #[true, true, true, false, false, false, false, false, false, false, false, false, false, false, false, false, false, false, false, false, false, false, false, false, false, false] rfl rfl (any_of HT_.out (by kernel_rfl)) (fun _ _ _ h => h) (Or.inl ⟨by rfl, ?_⟩) ?_ ?_
  rotate_left
  · intro w'
    go_simp
    with_reducible rfl
  rotate_left
  · simp only [Act.put, List.setIfInBounds_toArray, List.set_cons_zero, List.set_cons_succ, i64_w, i32_w]
    rfl
  refine take_ (i := 3) (N := some 18) (v := ?_) (a' := ?_) #[true, true, true, true, false, false, false, false, false, false, false, false, false, false, false, false, false, false, false, false, false, false, false, false, false, false] rfl rfl (take_ofW HT_.out HW_.out (by kernel_rfl)) (fun _ _ _ h => h) (Or.inl ⟨by rfl, ?_⟩) hHeld ?_ ?_
  rotate_left
  · rintro w' ⟨s0, s1, s2, s3⟩
    go_simp
    with_reducible rfl
  rotate_left
  · simp only [Act.put, List.setIfInBounds_toArray, List.set_cons_zero, List.set_cons_succ, i64_w, i32_w]
    rfl
  refine pure_ (i := 4) (N := some 19) (v := ?_) (a' := ?_) #[true, true, true, true, true, false, false, false, false, false, false, false, false, false, false, false, false, false, false, false, false, false, false, false, false, false] rfl rfl (any_of HT_.out (by kernel_rfl)) (fun _ _ _ h => h) (Or.inl ⟨by rfl, ?_⟩) ?_ ?_
  rotate_left
  · intro w'
    go_simp
    with_reducible rfl
  rotate_left
  · simp only [Act.put, List.setIfInBounds_toArray, List.set_cons_zero, List.set_cons_succ, i64_w, i32_w]
    rfl
  refine pure_ (i := 5) (N := some 20) (v := ?_) (a' := ?_) #[true, true, true, true, true, true, false, false, false, false, false, false, false, false, false, false, false, false, false, false, false, false, false, false, false, false] rfl rfl (any_of HT_.out (by kernel_rfl)) (fun _ _ _ h => h) (Or.inl ⟨by rfl, ?_⟩) ?_ ?_
  rotate_left
  · intro w'
    go_simp
    with_reducible rfl
  rotate_left
  · simp only [Act.put, List.setIfInBounds_toArray, List.set_cons_zero, List.set_cons_succ, i64_w, i32_w]
    rfl
  refine pure_ (i := 6) (N := some 21) (v := ?_) (a' := ?_) #[true, true, true, true, true, true, true, false, false, false, false, false, false, false, false, false, false, false, false, false, false, false, false, false, false, false] rfl rfl (any_of HT_.out (by kernel_rfl)) (fun _ _ _ h => h) (Or.inl ⟨by rfl, ?_⟩) ?_ ?_
  rotate_left
  · intro w'
    go_simp
    with_reducible rfl
  rotate_left
  · simp only [Act.put, List.setIfInBounds_toArray, List.set_cons_zero, List.set_cons_succ, i64_w, i32_w]
    rfl
  refine take_ (i := 7) (N := some 22) (v := ?_) (a' := ?_) #[true, true, true, true, true, true, true, true, false, false, false, false, false, false, false, false, false, false, false, false, false, false, false, false, false, false] rfl rfl (take_ofW HT_.out HW_.out (by kernel_rfl)) (fun _ _ _ h => h) (Or.inl ⟨by rfl, ?_⟩) hHeld ?_ ?_
  rotate_left
  · rintro w' ⟨s0, s1, s2, s3⟩
    go_simp
    with_reducible rfl
  rotate_left
  · simp only [Act.put, List.setIfInBounds_toArray, List.set_cons_zero, List.set_cons_succ, i64_w, i32_w]
    rfl
  refine pure_ (i := 8) (N := some 23) (v := ?_) (a' := ?_) #[true, true, true, true, true, true, true, true, true, false, false, false, false, false, false, false, false, false, false, false, false, false, false, false, false, false] rfl rfl (any_of HT_.out (by kernel_rfl)) (fun _ _ _ h => h) (Or.inl ⟨by rfl, ?_⟩) ?_ ?_
  rotate_left
  · intro w'
    go_simp
    with_reducible rfl
  rotate_left
  · simp only [Act.put, List.setIfInBounds_toArray, List.set_cons_zero, List.set_cons_succ, i64_w, i32_w]
    rfl
  refine pure_ (i := 9) (N := some 24) (v := ?_) (a' := ?_) #[true, true, true, true, true, true, true, true, true, true, false, false, false, false, false, false, false, false, false, false, false, false, false, false, false, false] rfl rfl (any_of HT_.out (by kernel_rfl)) (fun _ _ _ h => h) (Or.inl ⟨by rfl, ?_⟩) ?_ ?_
  rotate_left
  · intro w'
    go_simp
    with_reducible rfl
  rotate_left
  · simp only [Act.put, List.setIfInBounds_toArray, List.set_cons_zero, List.set_cons_succ, i64_w, i32_w]
    rfl
  refine pure_ (i := 10) (N := some 25) (v := ?_) (a' := ?_) #[true, true, true, true, true, true, true, true, true, true, true, false, false, false, false, false, false, false, false, false, false, false, false, false, false, false] rfl rfl (any_of HT_.out (by kernel_rfl)) (fun _ _ _ h => h) (Or.inl ⟨by rfl, ?_⟩) ?_ ?_
  rotate_left
  · intro w'
    go_simp
    with_reducible rfl
  rotate_left
  · simp only [Act.put, List.setIfInBounds_toArray, List.set_cons_zero, List.set_cons_succ, i64_w, i32_w]
    rfl
  refine take_ (i := 11) (N := some 26) (v := ?_) (a' := ?_) #[true, true, true, true, true, true, true, true, true, true, true, true, false, false, false, false, false, false, false, false, false, false, false, false, false, false] rfl rfl (take_ofW HT_.out HW_.out (by kernel_rfl)) (fun _ _ _ h => h) (Or.inl ⟨by rfl, ?_⟩) hHeld ?_ ?_
  rotate_left
  · rintro w' ⟨s0, s1, s2, s3⟩
    go_simp
    with_reducible rfl
  rotate_left
  · simp only [Act.put, List.setIfInBounds_toArray, List.set_cons_zero, List.set_cons_succ, i64_w, i32_w]
    rfl
  refine pure_ (i := 12) (N := some 27) (v := ?_) (a' := ?_) #[true, true, true, true, true, true, true, true, true, true, true, true, true, false, false, false, false, false, false, false, false, false, false, false, false, false] rfl rfl (any_of HT_.out (by kernel_rfl)) (fun _ _ _ h => h) (Or.inl ⟨by rfl, ?_⟩) ?_ ?_
  rotate_left
  · intro w'
    go_simp
    with_reducible rfl
  rotate_left
  · simp only [Act.put, List.setIfInBounds_toArray, List.set_cons_zero, List.set_cons_succ, i64_w, i32_w]
    rfl
  refine pure_ (i := 13) (N := some 28) (v := ?_) (a' := ?_) #[true, true, true, true, true, true, true, true, true, true, true, true, true, true, false, false, false, false, false, false, false, false, false, false, false, false] rfl rfl (any_of HT_.out (by kernel_rfl)) (fun _ _ _ h => h) (Or.inl ⟨by rfl, ?_⟩) ?_ ?_
  rotate_left
  · intro w'
    go_simp
    with_reducible rfl
  rotate_left
  · simp only [Act.put, List.setIfInBounds_toArray, List.set_cons_zero, List.set_cons_succ, i64_w, i32_w]
    rfl
  refine pure_ (i := 14) (N := some 29) (v := ?_) (a' := ?_) #[true, true, true, true, true, true, true, true, true, true, true, true, true, true, true, false, false, false, false, false, false, false, false, false, false, false] rfl rfl (any_of HT_.out (by kernel_rfl)) (fun _ _ _ h => h) (Or.inl ⟨by rfl, ?_⟩) ?_ ?_
  rotate_left
  · intro w'
    go_simp
    with_reducible rfl
  rotate_left
  · simp only [Act.put, List.setIfInBounds_toArray, List.set_cons_zero, List.set_cons_succ, i64_w, i32_w]
    rfl
  refine pure_ (i := 15) (N := some 30) (v := ?_) (a' := ?_) #[true, true, true, true, true, true, true, true, true, true, true, true, true, true, true, true, false, false, false, false, false, false, false, false, false, false] rfl rfl (any_of HT_.out (by kernel_rfl)) (fun _ _ _ h => h) (Or.inl ⟨by rfl, ?_⟩) ?_ ?_
  rotate_left
  · intro w'
    go_simp
    with_reducible rfl
  rotate_left
  · simp only [Act.put, List.setIfInBounds_toArray, List.set_cons_zero, List.set_cons_succ, i64_w, i32_w]
    rfl
  refine pure_ (i := 16) (N := some 31) (v := ?_) (a' := ?_) #[true, true, true, true, true, true, true, true, true, true, true, true, true, true, true, true, true, false, false, false, false, false, false, false, false, false] rfl rfl (any_of HT_.out (by kernel_rfl)) (fun _ _ _ h => h) (Or.inl ⟨by rfl, ?_⟩) ?_ ?_
  rotate_left
  · intro w'
    go_simp
    with_reducible rfl
  rotate_left
  · simp only [Act.put, List.setIfInBounds_toArray, List.set_cons_zero, List.set_cons_succ, i64_w, i32_w]
    rfl
  refine pure_ (i := 17) (N := some 32) (v := ?_) (a' := ?_) #[true, true, true, true, true, true, true, true, true, true, true, true, true, true, true, true, true, true, false, false, false, false, false, false, false, false] rfl rfl (any_of HT_.out (by kernel_rfl)) (fun _ _ _ h => h) (Or.inl ⟨by rfl, ?_⟩) ?_ ?_
  rotate_left
  · intro w'
    go_simp
    with_reducible rfl
  rotate_left
  · simp only [Act.put, List.setIfInBounds_toArray, List.set_cons_zero, List.set_cons_succ, i64_w, i32_w]
    rfl
  refine pure_ (i := 18) (N := some 33) (v := ?_) (a' := ?_) #[true, true, true, true, true, true, true, true, true, true, true, true, true, true, true, true, true, true, true, false, false, false, false, false, false, false] rfl rfl (any_of HT_.out (by kernel_rfl)) (fun _ _ _ h => h) (Or.inl ⟨by rfl, ?_⟩) ?_ ?_
  rotate_left
  · intro w'
    go_simp
    with_reducible rfl
  rotate_left
  · simp only [Act.put, List.setIfInBounds_toArray, List.set_cons_zero, List.set_cons_succ, i64_w, i32_w]
    rfl
  refine take_ (i := 19) (N := some 34) (v := ?_) (a' := ?_) #[true, true, true, true, true, true, true, true, true, true, true, true, true, true, true, true, true, true, true, true, false, false, false, false, false, false] rfl rfl (take_ofW HT_.out HW_.out (by kernel_rfl)) (fun _ _ _ h => h) (Or.inl ⟨by rfl, ?_⟩) hHeld ?_ ?_
  rotate_left
  · rintro w' ⟨s0, s1, s2, s3⟩
    go_simp
    with_reducible rfl
  rotate_left
  · simp only [Act.put, List.setIfInBounds_toArray, List.set_cons_zero, List.set_cons_succ, i64_w, i32_w]
    rfl
  refine pure_ (i := 20) (N := some 35) (v := ?_) (a' := ?_) #[true, true, true, true, true, true, true, true, true, true, true, true, true, true, true, true, true, true, true, true, true, false, false, false, false, false] rfl rfl (any_of HT_.out (by kernel_rfl)) (fun _ _ _ h => h) (Or.inl ⟨by rfl, ?_⟩) ?_ ?_
  rotate_left
  · intro w'
    go_simp
    with_reducible rfl
  rotate_left
  · simp only [Act.put, List.setIfInBounds_toArray, List.set_cons_zero, List.set_cons_succ, i64_w, i32_w]
    rfl
  refine pure_ (i := 21) (N := some 36) (v := ?_) (a' := ?_) #[true, true, true, true, true, true, true, true, true, true, true, true, true, true, true, true, true, true, true, true, true, true, false, false, false, false] rfl rfl (any_of HT_.out (by kernel_rfl)) (fun _ _ _ h => h) (Or.inl ⟨by rfl, ?_⟩) ?_ ?_
  rotate_left
  · intro w'
    go_simp
    with_reducible rfl
  rotate_left
  · simp only [Act.put, List.setIfInBounds_toArray, List.set_cons_zero, List.set_cons_succ, i64_w, i32_w]
    rfl
  refine pure_ (i := 22) (N := some 37) (v := ?_) (a' := ?_) #[true, true, true, true, true, true, true, true, true, true, true, true, true, true, true, true, true, true, true, true, true, true, true, false, false, false] rfl rfl (any_of HT_.out (by kernel_rfl)) (fun _ _ _ h => h) (Or.inl ⟨by rfl, ?_⟩) ?_ ?_
  rotate_left
  · intro w'
    go_simp
    with_reducible rfl
  rotate_left
  · simp only [Act.put, List.setIfInBounds_toArray, List.set_cons_zero, List.set_cons_succ, i64_w, i32_w]
    rfl
  refine take_ (i := 23) (N := some 38) (v := ?_) (a' := ?_) #[true, true, true, true, true, true, true, true, true, true, true, true, true, true, true, true, true, true, true, true, true, true, true, true, false, false] rfl rfl (take_ofW HT_.out HW_.out (by kernel_rfl)) (fun _ _ _ h => h) (Or.inl ⟨by rfl, ?_⟩) hHeld ?_ ?_
  rotate_left
  · rintro w' ⟨s0, s1, s2, s3⟩
    go_simp
    with_reducible rfl
  rotate_left
  · simp only [Act.put, List.setIfInBounds_toArray, List.set_cons_zero, List.set_cons_succ, i64_w, i32_w]
    rfl
  refine one_ (i := 24) (N := some 39) #[true, true, true, true, true, true, true, true, true, true, true, true, true, true, true, true, true, true, true, true, true, true, true, true, true, false] rfl rfl (one_of HT_.out (by kernel_rfl)) (by decide) (fun K hK => ?_)
  refine goes_ Tryd.func19 (by kernel_rfl) rfl #[.slice A ll.length cc] (by rfl) rfl rfl (by (try simp only [List.map_toArray, List.map_cons, List.map_nil]); first | done | rfl) ?_
  refine (HCL.out w.drew (below_drew (Below.refl _ _))).mono ?_
  rintro e w5 ⟨v5, rfl, hR5, hb5⟩
  refine ⟨_, rfl, ?_⟩
  have HR5 := Aside0.mk hR5
  have HB5 := Aside0.mk hb5
  refine hK.out _ _ (HG5.out w5 hb5) (fun hHeld => ?_)
  clear hK K hR5 hb5
  refine pure_ (i := 25) (N := some 4) (v := ?_) (a' := ?_) #[true, true, true, true, true, true, true, true, true, true, true, true, true, true, true, true, true, true, true, true, true, true, true, true, true, true] rfl rfl (any_of HT_.out (by kernel_rfl)) (fun _ _ _ h => h) (Or.inl ⟨by rfl, ?_⟩) ?_ ?_
  rotate_left
  · intro w'
    go_simp
    with_reducible rfl
  rotate_left
  · simp only [Act.put, List.setIfInBounds_toArray, List.set_cons_zero, List.set_cons_succ, i64_w, i32_w]
    rfl
  refine done_ (done_of HT_.out (by kernel_rfl)) ?_
  go_wp2
  go_ret
  exact ⟨_, rfl, HR5.out, below_step (below_drew (Below.refl _ _)) HB5.out⟩
set_option maxHeartbeats 8000000 in
set_option maxRecDepth 100000 in
theorem BSt.Line_none {B g h M first n lost : Nat} {ring : List (List S28)} {rv : Value} {w : World} (s : BSt B g h M first n lost ring rv w) (zi : Int) (hi : zi < 0 ∨ zi ≥ n) :
    Calls Tryd.prog 14 #[.pointer (some ⟨g, 0, none⟩), .int .i64 zi] w fun e w' => e = .returned (.slice none 0 0) ∧ Below w.heap.size w w' := by
  have hg2 := s.cell2
  clear s
  obtain ⟨zn, hzn⟩ : ∃ z : Int, z = (n : Int) := ⟨_, rfl⟩
  rw [← hzn] at hg2 hi
  clear hzn
  by_cases h0 : zi < 0
  · have hlt : decide (zi < 0) = true := decide_eq_true h0
    clear hi h0
    go_enter Tryd.func14, Tryd.ntmps14
    go_wp2
    go_ret
    exact ⟨rfl, Below.refl _ _⟩
  · have hlt : decide (zi < 0) = false := decide_eq_false h0
    have hge : decide (zi ≥ zn) = true := decide_eq_true (by omega)
    clear hi h0
    go_enter Tryd.func14, Tryd.ntmps14
    go_wp2
    go_ret
    exact ⟨rfl, Below.refl _ _⟩
set_option maxHeartbeats 8000000 in
set_option maxRecDepth 100000 in
theorem BSt.Text_calls {B g h M first n lost : Nat} {ring : List (List S28)} {rv : Value} {w : World} (s : BSt B g h M first n lost ring rv w) (i : Nat) (hi : i < n) (hn : n ≤ M) (hf : first ≤ 1000) (hM : M ≤ 1000) (ix : Nat) (hix : ix = (first + n - 1 - i) % M) (ll : List S28) (hll : ring[ix]? = some ll) (hlm : ll.length < 4398046511104) (k : Nat) (r : ByteArray) (hr : cell_Text.f k ll = some r) :
    Calls Tryd.prog 15 #[.pointer (some ⟨g, 0, none⟩), .int .i64 (i : Int)] w fun e w' => e = .returned (.string r) ∧ Below w.heap.size w w' := by
  have HL := Aside0.mk (s.Line_calls i hi hn hf hM ix hix ll hll hlm)
  have HT := Aside0.mk hr
  obtain ⟨zi, hzi⟩ : ∃ z : Int, z = (i : Int) := ⟨_, rfl⟩
  rw [← hzi] at HL ⊢
  clear s hi hn hf hM hix hll hlm hr hzi
  go_enter Tryd.func15, Tryd.ntmps15
  go_wp2_with (first
    | (go_at_call 14; refine HL.out.mono ?_; rintro e w1 ⟨v0, rfl, hR, hb⟩; obtain ⟨A, c, rfl, hc, hC⟩ := Kd.R_reads hR; have HC := Aside0.mk hC; have HLE := Aside0.mk hc; have HB := Aside0.mk hb; clear hR hc hC hb)
    | (go_at_call 16; refine (cell_Text.calls k A c ll r _ HC.out HLE.out HT.out).mono ?_; rintro e w2 ⟨rfl, hb2⟩; have HB2 := Aside0.mk hb2; clear hb2))
  go_ret
  exact ⟨rfl, below_step HB.out HB2.out⟩
set_option maxHeartbeats 8000000 in
set_option maxRecDepth 100000 in
theorem BSt.Text_none {B g h M first n lost : Nat} {ring : List (List S28)} {rv : Value} {w : World} (s : BSt B g h M first n lost ring rv w) (zi : Int) (hi : zi < 0 ∨ zi ≥ n) (k : Nat) (r : ByteArray) (hr : cell_Text.f k [] = some r) :
    Calls Tryd.prog 15 #[.pointer (some ⟨g, 0, none⟩), .int .i64 zi] w fun e w' => e = .returned (.string r) ∧ Below w.heap.size w w' := by
  have HL := Aside0.mk (s.Line_none zi hi)
  have HT := Aside0.mk (fun (W : World) => cell_Text.calls k none 0 [] r W ⟨rfl, by decide, fun h => absurd h (by decide)⟩ (by decide) hr)
  clear s hi hr
  go_enter Tryd.func15, Tryd.ntmps15
  go_wp2_with (first
    | (go_at_call 14; refine HL.out.mono ?_; rintro e w1 ⟨rfl, hb⟩; have HB := Aside0.mk hb; clear hb)
    | (go_at_call 16; refine (HT.out _).mono ?_; rintro e w2 ⟨rfl, hb2⟩; have HB2 := Aside0.mk hb2; clear hb2))
  go_ret
  exact ⟨rfl, below_step HB.out HB2.out⟩

section
variable {B g h M first n lost : Nat} {ring : List (List S28)} {rv : Value} {w w1 : World}
theorem BSt.hcell (s : BSt B g h M first n lost ring rv w) (hM : 0 < M) (i : Nat) (hi : i < M) : ∃ v, w.cell? ⟨h, i, none⟩ = some v := by
  obtain ⟨cells, h1, h2, h3⟩ := s.rows hM
  exact ⟨_, (cell_of_row w h i cells 22 (0, 0) h1).trans (Array.getElem?_eq_getElem (by omega))⟩
theorem BSt.hfrozen (s : BSt B g h M first n lost ring rv w) (hM : 0 < M) (i : Nat) : w.frozen? ⟨h, i, none⟩ = false := by
  obtain ⟨cells, h1, h2, h3⟩ := s.rows hM
  exact blk_frozen h1 i
/-- What a step may change. -/
structure Stp (B g h : Nat) (w w' : World) : Prop where
  below : Below B w w'
  kept : Kept w w' (fun k => k = g ∨ k = h)
theorem Stp.refl (B g h : Nat) (w : World) : Stp B g h w w := ⟨Below.refl _ _, Kept.refl _ _⟩
theorem Stp.then_ (s : Stp B g h w w1) {w2 : World} (hB : B ≤ w.heap.size) (hb : Below w1.heap.size w1 w2) : Stp B g h w w2 := ⟨s.below.trans (hb.mono (Nat.le_trans hB s.below.size)), s.kept.below hb⟩
theorem Stp.setg (s : Stp B g h w w1) (hg : B ≤ g) (j : Nat) (u : Value) : Stp B g h w (w1.setCell ⟨g, j, none⟩ u) := ⟨s.below.setCell hg u, s.kept.setCell (p := ⟨g, j, none⟩) (.inl (.inl rfl)) u⟩
theorem Stp.seth (s : Stp B g h w w1) (hh : B ≤ h) (j : Nat) (u : Value) : Stp B g h w (w1.setCell ⟨h, j, none⟩ u) := ⟨s.below.setCell hh u, s.kept.setCell (p := ⟨h, j, none⟩) (.inl (.inr rfl)) u⟩
end
def pushN (M n : Nat) : Nat := if n < M then n + 1 else n
def pushF (M first n : Nat) : Nat := if n < M then first else (first + 1) % M
def pushL (M n lost : Nat) : Nat := if n < M then lost else lost + 1
def Bk10_2.T : Bool × List (List Nat × List Nat) := (true, [([], []), ([0], [0]), ([1], [1]), ([2], [2]), ([], []), ([4], [4]), ([5], [5]), ([6], [6]), ([], []), ([8], [8]), ([9], [9]), ([10], [10]), ([7, 11], [7, 11]), ([], []), ([13], [13]), ([14], [14]), ([15], [15]), ([16], [16]), ([12, 17], [12, 17]), ([], []), ([19], [19]), ([3, 18, 0, 1, 2, 3, 4, 5, 6, 7, 8, 9, 10, 11, 12, 13, 14, 15, 16, 17, 18, 19, 20], [3, 18]), ([21, 20, 20, 0, 1, 2, 3, 4, 5, 6, 7, 8, 9, 10, 11, 12, 13, 14, 15, 16, 17, 18, 19, 20], [20, 21])])
def Bk10_2.B : List Nat := [0, 1, 3, 7, 0, 16, 48, 112, 0, 256, 768, 1792, 4080, 0, 8192, 24576, 57344, 122880, 262128, 0, 524288, 2097151, 4194303]
theorem Bk10_2.tab : rtab .any (opsOf Tryd.f10 2) = Bk10_2.T := by kernel_rfl
theorem Bk10_2.bits : waitsOk Bk10_2.T.2 Bk10_2.B = true := by kernel_rfl
def Bk10_3.T : Bool × List (List Nat × List Nat) := (true, [([], []), ([0], [0]), ([1], [1]), ([2], [2]), ([], []), ([4], [4]), ([5], [5]), ([6], [6]), ([7], [7]), ([3, 8], [3, 8])])
def Bk10_3.B : List Nat := [0, 1, 3, 7, 0, 16, 48, 112, 240, 511]
theorem Bk10_3.tab : rtab .any (opsOf Tryd.f10 3) = Bk10_3.T := by kernel_rfl
theorem Bk10_3.bits : waitsOk Bk10_3.T.2 Bk10_3.B = true := by kernel_rfl
def Bk10_5.T : Bool × List (List Nat × List Nat) := (true, [([], []), ([], []), ([1], [1]), ([2], [2]), ([3], [3]), ([4], [4]), ([], []), ([6], [6]), ([7], [7]), ([8], [8]), ([9], [9]), ([5, 10], [5, 10]), ([0, 0, 1, 2, 3, 4, 5, 6, 7, 8, 9, 10, 11], [0]), ([12, 0, 1, 2, 3, 4, 5, 6, 7, 8, 9, 10, 11], [12]), ([13, 11, 0, 1, 2, 3, 4, 5, 6, 7, 8, 9, 10, 11], [11, 13])])
def Bk10_5.B : List Nat := [0, 0, 2, 6, 14, 30, 0, 64, 192, 448, 960, 2046, 4095, 8191, 16383]
theorem Bk10_5.tab : rtab .any (opsOf Tryd.f10 5) = Bk10_5.T := by kernel_rfl
theorem Bk10_5.bits : waitsOk Bk10_5.T.2 Bk10_5.B = true := by kernel_rfl
set_option maxHeartbeats 8000000 in
set_option maxRecDepth 100000 in
theorem BSt.Push_calls {B g h M first n lost : Nat} {ring : List (List S28)} {rv : Value} {w : World} (s : BSt B g h M first n lost ring rv w) (hB : B ≤ w.heap.size) (hM0 : 0 < M) (hM : M ≤ 1000) (hn : n ≤ M) (hf : first < M) (hl : lost ≤ 1000000) (ix : Nat) (hix : ix = (first + n) % M) (A2 : Option Addr) (c2 : Nat) (row r : List S28) (hrow : Kd.C k28 w A2 row.length row) (hc2 : row.length ≤ c2) (k : Nat) (hr : back_Cut.f k row = some r) :
    Calls Tryd.prog 10 #[.pointer (some ⟨g, 0, none⟩), .slice A2 row.length c2] w fun e w' => e = .returned (.tuple #[]) ∧ BSt B g h M (pushF M first n) (pushN M n) (pushL M n lost) (ring.set ix r) rv w' ∧ Stp B g h w w' := by
  obtain ⟨A0, c, rfl, hA⟩ := s.rvf
  obtain rfl := hA hM0
  have hixM : ix < M := by rw [hix]; exact Nat.mod_lt _ hM0
  have HS := Aside0.mk s
  obtain ⟨zf, hzf⟩ : ∃ z : Int, z = (first : Int) := ⟨_, rfl⟩
  obtain ⟨zn, hzn⟩ : ∃ z : Int, z = (n : Int) := ⟨_, rfl⟩
  obtain ⟨zl, hzl⟩ : ∃ z : Int, z = (lost : Int) := ⟨_, rfl⟩
  have hg0 := s.cell0
  have hg1 := s.cell1
  have hg2 := s.cell2
  rw [← hzf] at hg1
  rw [← hzn] at hg2
  have ha1 : wrap64 (zf + zn) = zf + zn := by unfold wrap64; omega
  have hmod : Int.tmod (zf + zn) (M : Int) = (ix : Int) := by rw [hzf, hzn, ← Int.natCast_add, ← Int.ofNat_tmod, hix]
  have hm0 := eq_false (show ¬ M = 0 by omega)
  have hm00 : ((M : Int) == 0) = false := beq_eq_false_iff_ne.2 (by omega)
  have p1 := eq_true (show (0 : Int) ≤ (ix : Int) by omega)
  have q1 := eq_true (show (ix : Int) < (M : Int) by omega)
  have HZ := Aside0.mk (And.intro hzf (And.intro hzn hzl))
  have HM0 := Aside0.mk hM0
  have HIX := Aside0.mk hixM
  have HBB := Aside0.mk hB
  have HG := Aside0.mk (show w.drew.cell? ⟨g, 0, none⟩ = some (.slice (some ⟨h, 0, none⟩) M c) ∧ w.drew.cell? ⟨g, 1, none⟩ = some (.int .i64 zf) ∧ w.drew.cell? ⟨g, 2, none⟩ = some (.int .i64 zn) from ⟨hg0, hg1, hg2⟩)
  have HCL := Aside0.mk (fun (w4 : World) (hb : Below w.heap.size w w4) => back_Cut.calls k A2 c2 row r w4 (Kd.C_below hrow hb) hc2 hr)
  have HLT := Aside0.mk s.lt
  have HGH := Aside0.mk s.gh
  have HN := Aside0.mk hn
  have HF := Aside0.mk hf
  have HLL := Aside0.mk hl
  have HMM := Aside0.mk hM
  clear s hrow hc2 hr hA hg1 hg2 hix hixM hzf hzn hzl hB hM0 hl hf hn hM
  go_enter Tryd.func10, Tryd.ntmps10
  go_wp2
  clear hg0
  refine start_ (n := 23) (S := fun w' => w'.cell? ⟨g, 0, none⟩ = some (.slice (some ⟨h, 0, none⟩) M c) ∧ w'.cell? ⟨g, 1, none⟩ = some (.int .i64 zf) ∧ w'.cell? ⟨g, 2, none⟩ = some (.int .i64 zn)) (ds := [22]) #[false, false, false, false, false, false, false, false, false, false, false, false, false, false, false, false, false, false, false, false, false, false, false] (by kernel_rfl) rfl rfl ⟨HG.out.1, HG.out.2.1, HG.out.2.2⟩ (fun hHeld => ?_); refine with_tabW Bk10_2.tab Bk10_2.bits (fun HT_ HW_ => ?_)
  refine pure_ (i := 0) (N := some 17) (v := ?_) (a' := ?_) #[true, false, false, false, false, false, false, false, false, false, false, false, false, false, false, false, false, false, false, false, false, false, false] rfl rfl (any_of HT_.out (by kernel_rfl)) (fun _ _ _ h => h) (Or.inl ⟨by rfl, ?_⟩) ?_ ?_
  rotate_left
  · intro w'
    go_simp
    with_reducible rfl
  rotate_left
  · simp only [Act.put, List.setIfInBounds_toArray, List.set_cons_zero, List.set_cons_succ, i64_w, i32_w]
    rfl
  refine pure_ (i := 1) (N := some 18) (v := ?_) (a' := ?_) #[true, true, false, false, false, false, false, false, false, false, false, false, false, false, false, false, false, false, false, false, false, false, false] rfl rfl (any_of HT_.out (by kernel_rfl)) (fun _ _ _ h => h) (Or.inl ⟨by rfl, ?_⟩) ?_ ?_
  rotate_left
  · intro w'
    go_simp
    with_reducible rfl
  rotate_left
  · simp only [Act.put, List.setIfInBounds_toArray, List.set_cons_zero, List.set_cons_succ, i64_w, i32_w]
    rfl
  refine pure_ (i := 2) (N := some 19) (v := ?_) (a' := ?_) #[true, true, true, false, false, false, false, false, false, false, false, false, false, false, false, false, false, false, false, false, false, false, false] rfl rfl (any_of HT_.out (by kernel_rfl)) (fun _ _ _ h => h) (Or.inl ⟨by rfl, ?_⟩) ?_ ?_
  rotate_left
  · intro w'
    go_simp
    with_reducible rfl
  rotate_left
  · simp only [Act.put, List.setIfInBounds_toArray, List.set_cons_zero, List.set_cons_succ, i64_w, i32_w]
    rfl
  refine take_ (i := 3) (N := some 20) (v := ?_) (a' := ?_) #[true, true, true, true, false, false, false, false, false, false, false, false, false, false, false, false, false, false, false, false, false, false, false] rfl rfl (take_ofW HT_.out HW_.out (by kernel_rfl)) (fun _ _ _ h => h) (Or.inl ⟨by rfl, ?_⟩) hHeld ?_ ?_
  rotate_left
  · rintro w' ⟨s0, s1, s2⟩
    go_simp
    with_reducible rfl
  rotate_left
  · simp only [Act.put, List.setIfInBounds_toArray, List.set_cons_zero, List.set_cons_succ, i64_w, i32_w]
    rfl
  refine pure_ (i := 4) (N := some 21) (v := ?_) (a' := ?_) #[true, true, true, true, true, false, false, false, false, false, false, false, false, false, false, false, false, false, false, false, false, false, false] rfl rfl (any_of HT_.out (by kernel_rfl)) (fun _ _ _ h => h) (Or.inl ⟨by rfl, ?_⟩) ?_ ?_
  rotate_left
  · intro w'
    go_simp
    with_reducible rfl
  rotate_left
  · simp only [Act.put, List.setIfInBounds_toArray, List.set_cons_zero, List.set_cons_succ, i64_w, i32_w]
    rfl
  refine pure_ (i := 5) (N := some 22) (v := ?_) (a' := ?_) #[true, true, true, true, true, true, false, false, false, false, false, false, false, false, false, false, false, false, false, false, false, false, false] rfl rfl (any_of HT_.out (by kernel_rfl)) (fun _ _ _ h => h) (Or.inl ⟨by rfl, ?_⟩) ?_ ?_
  rotate_left
  · intro w'
    go_simp
    with_reducible rfl
  rotate_left
  · simp only [Act.put, List.setIfInBounds_toArray, List.set_cons_zero, List.set_cons_succ, i64_w, i32_w]
    rfl
  refine pure_ (i := 6) (N := some 23) (v := ?_) (a' := ?_) #[true, true, true, true, true, true, true, false, false, false, false, false, false, false, false, false, false, false, false, false, false, false, false] rfl rfl (any_of HT_.out (by kernel_rfl)) (fun _ _ _ h => h) (Or.inl ⟨by rfl, ?_⟩) ?_ ?_
  rotate_left
  · intro w'
    go_simp
    with_reducible rfl
  rotate_left
  · simp only [Act.put, List.setIfInBounds_toArray, List.set_cons_zero, List.set_cons_succ, i64_w, i32_w]
    rfl
  refine take_ (i := 7) (N := some 24) (v := ?_) (a' := ?_) #[true, true, true, true, true, true, true, true, false, false, false, false, false, false, false, false, false, false, false, false, false, false, false] rfl rfl (take_ofW HT_.out HW_.out (by kernel_rfl)) (fun _ _ _ h => h) (Or.inl ⟨by rfl, ?_⟩) hHeld ?_ ?_
  rotate_left
  · rintro w' ⟨s0, s1, s2⟩
    go_simp
    with_reducible rfl
  rotate_left
  · simp only [Act.put, List.setIfInBounds_toArray, List.set_cons_zero, List.set_cons_succ, i64_w, i32_w]
    rfl
  refine pure_ (i := 8) (N := some 25) (v := ?_) (a' := ?_) #[true, true, true, true, true, true, true, true, true, false, false, false, false, false, false, false, false, false, false, false, false, false, false] rfl rfl (any_of HT_.out (by kernel_rfl)) (fun _ _ _ h => h) (Or.inl ⟨by rfl, ?_⟩) ?_ ?_
  rotate_left
  · intro w'
    go_simp
    with_reducible rfl
  rotate_left
  · simp only [Act.put, List.setIfInBounds_toArray, List.set_cons_zero, List.set_cons_succ, i64_w, i32_w]
    rfl
  refine pure_ (i := 9) (N := some 26) (v := ?_) (a' := ?_) #[true, true, true, true, true, true, true, true, true, true, false, false, false, false, false, false, false, false, false, false, false, false, false] rfl rfl (any_of HT_.out (by kernel_rfl)) (fun _ _ _ h => h) (Or.inl ⟨by rfl, ?_⟩) ?_ ?_
  rotate_left
  · intro w'
    go_simp
    with_reducible rfl
  rotate_left
  · simp only [Act.put, List.setIfInBounds_toArray, List.set_cons_zero, List.set_cons_succ, i64_w, i32_w]
    rfl
  refine pure_ (i := 10) (N := some 27) (v := ?_) (a' := ?_) #[true, true, true, true, true, true, true, true, true, true, true, false, false, false, false, false, false, false, false, false, false, false, false] rfl rfl (any_of HT_.out (by kernel_rfl)) (fun _ _ _ h => h) (Or.inl ⟨by rfl, ?_⟩) ?_ ?_
  rotate_left
  · intro w'
    go_simp
    with_reducible rfl
  rotate_left
  · simp only [Act.put, List.setIfInBounds_toArray, List.set_cons_zero, List.set_cons_succ, i64_w, i32_w]
    rfl
  refine take_ (i := 11) (N := some 28) (v := ?_) (a' := ?_) #[true, true, true, true, true, true, true, true, true, true, true, true, false, false, false, false, false, false, false, false, false, false, false] rfl rfl (take_ofW HT_.out HW_.out (by kernel_rfl)) (fun _ _ _ h => h) (Or.inl ⟨by rfl, ?_⟩) hHeld ?_ ?_
  rotate_left
  · rintro w' ⟨s0, s1, s2⟩
    go_simp
    with_reducible rfl
  rotate_left
  · simp only [Act.put, List.setIfInBounds_toArray, List.set_cons_zero, List.set_cons_succ, i64_w, i32_w]
    rfl
  refine pure_ (i := 12) (N := some 29) (v := ?_) (a' := ?_) #[true, true, true, true, true, true, true, true, true, true, true, true, true, false, false, false, false, false, false, false, false, false, false] rfl rfl (any_of HT_.out (by kernel_rfl)) (fun _ _ _ h => h) (Or.inl ⟨by rfl, ?_⟩) ?_ ?_
  rotate_left
  · intro w'
    go_simp
    with_reducible rfl
  rotate_left
  · simp only [Act.put, List.setIfInBounds_toArray, List.set_cons_zero, List.set_cons_succ, i64_w, i32_w]
    rfl
  refine pure_ (i := 13) (N := some 30) (v := ?_) (a' := ?_) #[true, true, true, true, true, true, true, true, true, true, true, true, true, true, false, false, false, false, false, false, false, false, false] rfl rfl (any_of HT_.out (by kernel_rfl)) (fun _ _ _ h => h) (Or.inl ⟨by rfl, ?_⟩) ?_ ?_
  rotate_left
  · intro w'
    go_simp
    with_reducible rfl
  rotate_left
  · simp only [Act.put, List.setIfInBounds_toArray, List.set_cons_zero, List.set_cons_succ, i64_w, i32_w]
    rfl
  refine pure_ (i := 14) (N := some 31) (v := ?_) (a' := ?_) #[true, true, true, true, true, true, true, true, true, true, true, true, true, true, true, false, false, false, false, false, false, false, false] rfl rfl (any_of HT_.out (by kernel_rfl)) (fun _ _ _ h => h) (Or.inl ⟨by rfl, ?_⟩) ?_ ?_
  rotate_left
  · intro w'
    go_simp
    with_reducible rfl
  rotate_left
  · simp only [Act.put, List.setIfInBounds_toArray, List.set_cons_zero, List.set_cons_succ, i64_w, i32_w]
    rfl
  refine pure_ (i := 15) (N := some 32) (v := ?_) (a' := ?_) #[true, true, true, true, true, true, true, true, true, true, true, true, true, true, true, true, false, false, false, false, false, false, false] rfl rfl (any_of HT_.out (by kernel_rfl)) (fun _ _ _ h => h) (Or.inl ⟨by rfl, ?_⟩) ?_ ?_
  rotate_left
  · intro w'
    go_simp
    with_reducible rfl
  rotate_left
  · simp only [Act.put, List.setIfInBounds_toArray, List.set_cons_zero, List.set_cons_succ, i64_w, i32_w]
    rfl
  refine take_ (i := 16) (N := some 33) (v := ?_) (a' := ?_) #[true, true, true, true, true, true, true, true, true, true, true, true, true, true, true, true, true, false, false, false, false, false, false] rfl rfl (take_ofW HT_.out HW_.out (by kernel_rfl)) (fun _ _ _ h => h) (Or.inl ⟨by rfl, ?_⟩) hHeld ?_ ?_
  rotate_left
  · rintro w' ⟨s0, s1, s2⟩
    go_simp
    with_reducible rfl
  rotate_left
  · simp only [Act.put, List.setIfInBounds_toArray, List.set_cons_zero, List.set_cons_succ, i64_w, i32_w]
    rfl
  refine pure_ (i := 17) (N := some 34) (v := ?_) (a' := ?_) #[true, true, true, true, true, true, true, true, true, true, true, true, true, true, true, true, true, true, false, false, false, false, false] rfl rfl (any_of HT_.out (by kernel_rfl)) (fun _ _ _ h => h) (Or.inl ⟨by rfl, ?_⟩) ?_ ?_
  rotate_left
  · intro w'
    go_simp
    with_reducible rfl
  rotate_left
  · simp only [Act.put, List.setIfInBounds_toArray, List.set_cons_zero, List.set_cons_succ, i64_w, i32_w]
    rfl
  refine pure_ (i := 18) (N := some 35) (v := ?_) (a' := ?_) #[true, true, true, true, true, true, true, true, true, true, true, true, true, true, true, true, true, true, true, false, false, false, false] rfl rfl (any_of HT_.out (by kernel_rfl)) (fun _ _ _ h => h) (Or.inl ⟨by rfl, ?_⟩) ?_ ?_
  rotate_left
  · intro w'
    go_simp
    with_reducible rfl
  rotate_left
  · simp only [Act.put, List.setIfInBounds_toArray, List.set_cons_zero, List.set_cons_succ, i64_w, i32_w]
    rfl
  refine pure_ (i := 19) (N := some 36) (v := ?_) (a' := ?_) #[true, true, true, true, true, true, true, true, true, true, true, true, true, true, true, true, true, true, true, true, false, false, false] rfl rfl (any_of HT_.out (by kernel_rfl)) (fun _ _ _ h => h) (Or.inl ⟨by rfl, ?_⟩) ?_ ?_
  rotate_left
  · intro w'
    go_simp
    with_reducible rfl
  rotate_left
  · simp only [Act.put, List.setIfInBounds_toArray, List.set_cons_zero, List.set_cons_succ, i64_w, i32_w]
    rfl
  refine one_ (i := 20) (N := some 37) #[true, true, true, true, true, true, true, true, true, true, true, true, true, true, true, true, true, true, true, true, true, false, false] rfl rfl (one_of HT_.out (by kernel_rfl)) (by decide) (fun K hK => ?_)
  refine goes_ Tryd.func6 (by kernel_rfl) rfl #[.slice A2 row.length c2] (by rfl) rfl rfl (by (try simp only [List.map_toArray, List.map_cons, List.map_nil]); first | done | rfl) ?_
  refine (HCL.out w.drew (below_drew (Below.refl _ _))).mono ?_
  rintro e w5 ⟨v5, rfl, hR5, hb5⟩
  obtain ⟨A5, c5, rfl⟩ := Kd.R_slice hR5
  refine ⟨_, rfl, ?_⟩
  have HR5 := Aside0.mk hR5
  have HB5 := Aside0.mk hb5
  have HS5 := Aside0.mk (HS.out.drew.below hb5)
  refine hK.out _ _ ⟨HS5.out.cell0, HS5.out.cell1.trans (by rw [HZ.out.1]), HS5.out.cell2.trans (by rw [HZ.out.2.1])⟩ (fun hHeld => ?_)
  clear hK K hR5 hb5
  obtain ⟨old, hx5⟩ := HS5.out.hcell HM0.out ix HIX.out
  have hf5 := HS5.out.hfrozen HM0.out ix
  refine pure_ (i := 21) (N := some 38) (v := ?_) (a' := ?_) #[true, true, true, true, true, true, true, true, true, true, true, true, true, true, true, true, true, true, true, true, true, true, false] rfl rfl (any_of HT_.out (by kernel_rfl)) (fun _ _ _ h => h) (Or.inl ⟨by rfl, ?_⟩) ?_ ?_
  rotate_left
  · intro w'
    go_simp
    with_reducible rfl
  rotate_left
  · simp only [Act.put, List.setIfInBounds_toArray, List.set_cons_zero, List.set_cons_succ, i64_w, i32_w]
    rfl
  refine last_ (i := 22) (N := none) #[true, true, true, true, true, true, true, true, true, true, true, true, true, true, true, true, true, true, true, true, true, true, true] rfl rfl (one_of HT_.out (by kernel_rfl)) (by decide) (fun K hK => ?_)
  refine skip_ (w1 := ?_) (by rfl) rfl ?_ ?_
  rotate_left
  · go_simp
    rfl
  refine hK.out _ _ ?_
  clear hK K
  refine done_ (done_of HT_.out (by kernel_rfl)) ?_
  obtain ⟨W, hW⟩ : ∃ W, W = w5.setCell ⟨h, ix, none⟩ (.slice A5 r.length c5) := ⟨_, rfl⟩
  have hSW := HS5.out.lay HM0.out HLT.out.1 (HLT.out.2 HM0.out) ix HIX.out HR5.out
  have hPW := (((Stp.refl B g h w).then_ HBB.out (below_drew (Below.refl _ _))).then_ HBB.out HB5.out).seth (HGH.out.2 HM0.out).1 ix (.slice A5 r.length c5)
  rw [← hW] at hSW hPW ⊢
  have HSW := Aside0.mk hSW
  have HPW := Aside0.mk hPW
  have HG3 := Aside0.mk (show W.drew.cell? ⟨g, 0, none⟩ = some (.slice (some ⟨h, 0, none⟩) M c) ∧ W.drew.cell? ⟨g, 2, none⟩ = some (.int .i64 zn) from ⟨hSW.cell0, hSW.cell2.trans (by rw [HZ.out.2.1])⟩)
  clear hW hSW hPW hx5 hf5 HG HCL HS5 HR5 HB5
  go_wp2
  refine start_ (n := 10) (S := fun w' => w'.cell? ⟨g, 0, none⟩ = some (.slice (some ⟨h, 0, none⟩) M c) ∧ w'.cell? ⟨g, 2, none⟩ = some (.int .i64 zn)) (ds := []) #[false, false, false, false, false, false, false, false, false, false] (by kernel_rfl) rfl rfl ⟨HG3.out.1, HG3.out.2⟩ (fun hHeld => ?_); refine with_tabW Bk10_3.tab Bk10_3.bits (fun HT_ HW_ => ?_)
  refine pure_ (i := 0) (N := some 39) (v := ?_) (a' := ?_) #[true, false, false, false, false, false, false, false, false, false] rfl rfl (any_of HT_.out (by kernel_rfl)) (fun _ _ _ h => h) (Or.inl ⟨by rfl, ?_⟩) ?_ ?_
  rotate_left
  · intro w'
    go_simp
    with_reducible rfl
  rotate_left
  · simp only [Act.put, List.setIfInBounds_toArray, List.set_cons_zero, List.set_cons_succ, i64_w, i32_w]
    rfl
  refine pure_ (i := 1) (N := some 40) (v := ?_) (a' := ?_) #[true, true, false, false, false, false, false, false, false, false] rfl rfl (any_of HT_.out (by kernel_rfl)) (fun _ _ _ h => h) (Or.inl ⟨by rfl, ?_⟩) ?_ ?_
  rotate_left
  · intro w'
    go_simp
    with_reducible rfl
  rotate_left
  · simp only [Act.put, List.setIfInBounds_toArray, List.set_cons_zero, List.set_cons_succ, i64_w, i32_w]
    rfl
  refine pure_ (i := 2) (N := some 41) (v := ?_) (a' := ?_) #[true, true, true, false, false, false, false, false, false, false] rfl rfl (any_of HT_.out (by kernel_rfl)) (fun _ _ _ h => h) (Or.inl ⟨by rfl, ?_⟩) ?_ ?_
  rotate_left
  · intro w'
    go_simp
    with_reducible rfl
  rotate_left
  · simp only [Act.put, List.setIfInBounds_toArray, List.set_cons_zero, List.set_cons_succ, i64_w, i32_w]
    rfl
  refine take_ (i := 3) (N := some 42) (v := ?_) (a' := ?_) #[true, true, true, true, false, false, false, false, false, false] rfl rfl (take_ofW HT_.out HW_.out (by kernel_rfl)) (fun _ _ _ h => h) (Or.inl ⟨by rfl, ?_⟩) hHeld ?_ ?_
  rotate_left
  · rintro w' ⟨s0, s1⟩
    go_simp
    with_reducible rfl
  rotate_left
  · simp only [Act.put, List.setIfInBounds_toArray, List.set_cons_zero, List.set_cons_succ, i64_w, i32_w]
    rfl
  refine pure_ (i := 4) (N := some 43) (v := ?_) (a' := ?_) #[true, true, true, true, true, false, false, false, false, false] rfl rfl (any_of HT_.out (by kernel_rfl)) (fun _ _ _ h => h) (Or.inl ⟨by rfl, ?_⟩) ?_ ?_
  rotate_left
  · intro w'
    go_simp
    with_reducible rfl
  rotate_left
  · simp only [Act.put, List.setIfInBounds_toArray, List.set_cons_zero, List.set_cons_succ, i64_w, i32_w]
    rfl
  refine pure_ (i := 5) (N := some 44) (v := ?_) (a' := ?_) #[true, true, true, true, true, true, false, false, false, false] rfl rfl (any_of HT_.out (by kernel_rfl)) (fun _ _ _ h => h) (Or.inl ⟨by rfl, ?_⟩) ?_ ?_
  rotate_left
  · intro w'
    go_simp
    with_reducible rfl
  rotate_left
  · simp only [Act.put, List.setIfInBounds_toArray, List.set_cons_zero, List.set_cons_succ, i64_w, i32_w]
    rfl
  refine pure_ (i := 6) (N := some 45) (v := ?_) (a' := ?_) #[true, true, true, true, true, true, true, false, false, false] rfl rfl (any_of HT_.out (by kernel_rfl)) (fun _ _ _ h => h) (Or.inl ⟨by rfl, ?_⟩) ?_ ?_
  rotate_left
  · intro w'
    go_simp
    with_reducible rfl
  rotate_left
  · simp only [Act.put, List.setIfInBounds_toArray, List.set_cons_zero, List.set_cons_succ, i64_w, i32_w]
    rfl
  refine take_ (i := 7) (N := some 46) (v := ?_) (a' := ?_) #[true, true, true, true, true, true, true, true, false, false] rfl rfl (take_ofW HT_.out HW_.out (by kernel_rfl)) (fun _ _ _ h => h) (Or.inl ⟨by rfl, ?_⟩) hHeld ?_ ?_
  rotate_left
  · rintro w' ⟨s0, s1⟩
    go_simp
    with_reducible rfl
  rotate_left
  · simp only [Act.put, List.setIfInBounds_toArray, List.set_cons_zero, List.set_cons_succ, i64_w, i32_w]
    rfl
  refine pure_ (i := 8) (N := some 47) (v := ?_) (a' := ?_) #[true, true, true, true, true, true, true, true, true, false] rfl rfl (any_of HT_.out (by kernel_rfl)) (fun _ _ _ h => h) (Or.inl ⟨by rfl, ?_⟩) ?_ ?_
  rotate_left
  · intro w'
    go_simp
    with_reducible rfl
  rotate_left
  · simp only [Act.put, List.setIfInBounds_toArray, List.set_cons_zero, List.set_cons_succ, i64_w, i32_w]
    rfl
  refine pure_ (i := 9) (N := some 48) (v := ?_) (a' := ?_) #[true, true, true, true, true, true, true, true, true, true] rfl rfl (any_of HT_.out (by kernel_rfl)) (fun _ _ _ h => h) (Or.inl ⟨by rfl, ?_⟩) ?_ ?_
  rotate_left
  · intro w'
    go_simp
    with_reducible rfl
  rotate_left
  · simp only [Act.put, List.setIfInBounds_toArray, List.set_cons_zero, List.set_cons_succ, i64_w, i32_w]
    rfl
  refine done_ (done_of HT_.out (by kernel_rfl)) ?_
  have HSV := Aside0.mk HSW.out.drew
  have HPV := Aside0.mk (HPW.out.then_ HBB.out (below_drew (Below.refl _ _)))
  by_cases hlt : n < M
  · have hb : decide (zn < (M : Int)) = true := decide_eq_true (by rw [HZ.out.2.1]; omega)
    have hx6 : W.cell? ⟨g, 2, none⟩ = some (.int .i64 zn) := HSV.out.cell2.trans (by rw [HZ.out.2.1])
    have hf6 : W.frozen? ⟨g, 2, none⟩ = false := blk_frozen HSV.out.blk 2
    have HLTN := Aside0.mk hlt
    clear hlt
    rw [hb]
    go_wp2
    first | ((try simp only [Exit.inBlock, Exit.then]); refine bodyPost_ret (results_none rfl _ _ _) rfl ?_) | go_end0
    have hlt := HLTN.out
    have e1 : wrap64 (zn + 1) = ((n + 1 : Nat) : Int) := by have := HZ.out.2.1; have := HMM.out; unfold wrap64; omega
    refine ⟨rfl, ?_, HPV.out.setg HGH.out.1 2 _⟩
    unfold pushF pushN pushL
    rw [if_pos hlt, if_pos hlt, if_pos hlt]
    exact HSV.out.set 2 _ (by rw [e1]; rfl)
  · have hb : decide (zn < (M : Int)) = false := decide_eq_false (by rw [HZ.out.2.1]; omega)
    have hnM : n = M := by have := HN.out; omega
    have HNM := Aside0.mk hnM
    have HG4 := Aside0.mk (show W.drew.drew.cell? ⟨g, 0, none⟩ = some (.slice (some ⟨h, 0, none⟩) M c) ∧ W.drew.drew.cell? ⟨g, 1, none⟩ = some (.int .i64 zf) from ⟨HSV.out.cell0, HSV.out.cell1.trans (by rw [HZ.out.1])⟩)
    have hx6 : W.cell? ⟨g, 1, none⟩ = some (.int .i64 zf) := HG4.out.2
    have hf6 : W.frozen? ⟨g, 1, none⟩ = false := blk_frozen HSV.out.blk 1
    have ha2 : wrap64 (zf + 1) = zf + 1 := by have := HZ.out.1; have := HF.out; have := HMM.out; unfold wrap64; omega
    obtain ⟨f2, hf2⟩ : ∃ f2, f2 = (first + 1) % M := ⟨_, rfl⟩
    have hmod2 : Int.tmod (zf + 1) (M : Int) = (f2 : Int) := by rw [HZ.out.1, show (first : Int) + 1 = ((first + 1 : Nat) : Int) by omega, ← Int.ofNat_tmod, hf2]
    have HF2 := Aside0.mk hf2
    clear hlt hnM hf2
    rw [hb]
    go_wp2
    refine start_ (n := 15) (S := fun w' => w'.cell? ⟨g, 0, none⟩ = some (.slice (some ⟨h, 0, none⟩) M c) ∧ w'.cell? ⟨g, 1, none⟩ = some (.int .i64 zf)) (ds := [14]) #[false, false, false, false, false, false, false, false, false, false, false, false, false, false, false] (by kernel_rfl) rfl rfl ⟨HG4.out.1, HG4.out.2⟩ (fun hHeld => ?_); refine with_tabW Bk10_5.tab Bk10_5.bits (fun HT_ HW_ => ?_)
    refine pure_ (i := 0) (N := some 56) (v := ?_) (a' := ?_) #[true, false, false, false, false, false, false, false, false, false, false, false, false, false, false] rfl rfl (any_of HT_.out (by kernel_rfl)) (fun _ _ _ h => h) (Or.inl ⟨by rfl, ?_⟩) ?_ ?_
    rotate_left
    · intro w'
      go_simp
      with_reducible rfl
    rotate_left
    · simp only [Act.put, List.setIfInBounds_toArray, List.set_cons_zero, List.set_cons_succ, i64_w, i32_w]
      rfl
    refine pure_ (i := 1) (N := some 57) (v := ?_) (a' := ?_) #[true, true, false, false, false, false, false, false, false, false, false, false, false, false, false] rfl rfl (any_of HT_.out (by kernel_rfl)) (fun _ _ _ h => h) (Or.inl ⟨by rfl, ?_⟩) ?_ ?_
    rotate_left
    · intro w'
      go_simp
      with_reducible rfl
    rotate_left
    · simp only [Act.put, List.setIfInBounds_toArray, List.set_cons_zero, List.set_cons_succ, i64_w, i32_w]
      rfl
    refine pure_ (i := 2) (N := some 58) (v := ?_) (a' := ?_) #[true, true, true, false, false, false, false, false, false, false, false, false, false, false, false] rfl rfl (any_of HT_.out (by kernel_rfl)) (fun _ _ _ h => h) (Or.inl ⟨by rfl, ?_⟩) ?_ ?_
    rotate_left
    · intro w'
      go_simp
      with_reducible rfl
    rotate_left
    · simp only [Act.put, List.setIfInBounds_toArray, List.set_cons_zero, List.set_cons_succ, i64_w, i32_w]
      rfl
    refine pure_ (i := 3) (N := some 59) (v := ?_) (a' := ?_) #[true, true, true, true, false, false, false, false, false, false, false, false, false, false, false] rfl rfl (any_of HT_.out (by kernel_rfl)) (fun _ _ _ h => h) (Or.inl ⟨by rfl, ?_⟩) ?_ ?_
    rotate_left
    · intro w'
      go_simp
      with_reducible rfl
    rotate_left
    · simp only [Act.put, List.setIfInBounds_toArray, List.set_cons_zero, List.set_cons_succ, i64_w, i32_w]
      rfl
    refine take_ (i := 4) (N := some 60) (v := ?_) (a' := ?_) #[true, true, true, true, true, false, false, false, false, false, false, false, false, false, false] rfl rfl (take_ofW HT_.out HW_.out (by kernel_rfl)) (fun _ _ _ h => h) (Or.inl ⟨by rfl, ?_⟩) hHeld ?_ ?_
    rotate_left
    · rintro w' ⟨s0, s1⟩
      go_simp
      with_reducible rfl
    rotate_left
    · simp only [Act.put, List.setIfInBounds_toArray, List.set_cons_zero, List.set_cons_succ, i64_w, i32_w]
      rfl
    refine pure_ (i := 5) (N := some 61) (v := ?_) (a' := ?_) #[true, true, true, true, true, true, false, false, false, false, false, false, false, false, false] rfl rfl (any_of HT_.out (by kernel_rfl)) (fun _ _ _ h => h) (Or.inl ⟨by rfl, ?_⟩) ?_ ?_
    rotate_left
    · intro w'
      go_simp
      with_reducible rfl
    rotate_left
    · simp only [Act.put, List.setIfInBounds_toArray, List.set_cons_zero, List.set_cons_succ, i64_w, i32_w]
      rfl
    refine pure_ (i := 6) (N := some 62) (v := ?_) (a' := ?_) #[true, true, true, true, true, true, true, false, false, false, false, false, false, false, false] rfl rfl (any_of HT_.out (by kernel_rfl)) (fun _ _ _ h => h) (Or.inl ⟨by rfl, ?_⟩) ?_ ?_
    rotate_left
    · intro w'
      go_simp
      with_reducible rfl
    rotate_left
    · simp only [Act.put, List.setIfInBounds_toArray, List.set_cons_zero, List.set_cons_succ, i64_w, i32_w]
      rfl
    refine pure_ (i := 7) (N := some 63) (v := ?_) (a' := ?_) #[true, true, true, true, true, true, true, true, false, false, false, false, false, false, false] rfl rfl (any_of HT_.out (by kernel_rfl)) (fun _ _ _ h => h) (Or.inl ⟨by rfl, ?_⟩) ?_ ?_
    rotate_left
    · intro w'
      go_simp
      with_reducible rfl
    rotate_left
    · simp only [Act.put, List.setIfInBounds_toArray, List.set_cons_zero, List.set_cons_succ, i64_w, i32_w]
      rfl
    refine pure_ (i := 8) (N := some 64) (v := ?_) (a' := ?_) #[true, true, true, true, true, true, true, true, true, false, false, false, false, false, false] rfl rfl (any_of HT_.out (by kernel_rfl)) (fun _ _ _ h => h) (Or.inl ⟨by rfl, ?_⟩) ?_ ?_
    rotate_left
    · intro w'
      go_simp
      with_reducible rfl
    rotate_left
    · simp only [Act.put, List.setIfInBounds_toArray, List.set_cons_zero, List.set_cons_succ, i64_w, i32_w]
      rfl
    refine take_ (i := 9) (N := some 65) (v := ?_) (a' := ?_) #[true, true, true, true, true, true, true, true, true, true, false, false, false, false, false] rfl rfl (take_ofW HT_.out HW_.out (by kernel_rfl)) (fun _ _ _ h => h) (Or.inl ⟨by rfl, ?_⟩) hHeld ?_ ?_
    rotate_left
    · rintro w' ⟨s0, s1⟩
      go_simp
      with_reducible rfl
    rotate_left
    · simp only [Act.put, List.setIfInBounds_toArray, List.set_cons_zero, List.set_cons_succ, i64_w, i32_w]
      rfl
    refine pure_ (i := 10) (N := some 66) (v := ?_) (a' := ?_) #[true, true, true, true, true, true, true, true, true, true, true, false, false, false, false] rfl rfl (any_of HT_.out (by kernel_rfl)) (fun _ _ _ h => h) (Or.inl ⟨by rfl, ?_⟩) ?_ ?_
    rotate_left
    · intro w'
      go_simp
      with_reducible rfl
    rotate_left
    · simp only [Act.put, List.setIfInBounds_toArray, List.set_cons_zero, List.set_cons_succ, i64_w, i32_w]
      rfl
    refine pure_ (i := 11) (N := some 67) (v := ?_) (a' := ?_) #[true, true, true, true, true, true, true, true, true, true, true, true, false, false, false] rfl rfl (any_of HT_.out (by kernel_rfl)) (fun _ _ _ h => h) (Or.inl ⟨by rfl, ?_⟩) ?_ ?_
    rotate_left
    · intro w'
      go_simp
      with_reducible rfl
    rotate_left
    · simp only [Act.put, List.setIfInBounds_toArray, List.set_cons_zero, List.set_cons_succ, i64_w, i32_w]
      rfl
    refine pure_ (i := 12) (N := some 68) (v := ?_) (a' := ?_) #[true, true, true, true, true, true, true, true, true, true, true, true, true, false, false] rfl rfl (any_of HT_.out (by kernel_rfl)) (fun _ _ _ h => h) (Or.inl ⟨by rfl, ?_⟩) ?_ ?_
    rotate_left
    · intro w'
      go_simp
      with_reducible rfl
    rotate_left
    · simp only [Act.put, List.setIfInBounds_toArray, List.set_cons_zero, List.set_cons_succ, i64_w, i32_w]
      rfl
    refine pure_ (i := 13) (N := some 69) (v := ?_) (a' := ?_) #[true, true, true, true, true, true, true, true, true, true, true, true, true, true, false] rfl rfl (any_of HT_.out (by kernel_rfl)) (fun _ _ _ h => h) (Or.inl ⟨by rfl, ?_⟩) ?_ ?_
    rotate_left
    · intro w'
      go_simp
      with_reducible rfl
    rotate_left
    · simp only [Act.put, List.setIfInBounds_toArray, List.set_cons_zero, List.set_cons_succ, i64_w, i32_w]
      rfl
    refine last_ (i := 14) (N := none) #[true, true, true, true, true, true, true, true, true, true, true, true, true, true, true] rfl rfl (one_of HT_.out (by kernel_rfl)) (by decide) (fun K hK => ?_)
    refine skip_ (w1 := ?_) (by rfl) rfl ?_ ?_
    rotate_left
    · go_simp
      rfl
    refine hK.out _ _ ?_
    clear hK K
    refine done_ (done_of HT_.out (by kernel_rfl)) ?_
    obtain ⟨W2, hW2⟩ : ∃ W2, W2 = (W.setCell ⟨g, 1, none⟩ (.int .i64 (f2 : Int))).drew.drew := ⟨_, rfl⟩
    have hS2 : BSt B g h M f2 n lost (ring.set ix r) (.slice (some ⟨h, 0, none⟩) M c) W2 := by rw [hW2]; exact (HSW.out.set 1 _ rfl).drew.drew
    have hP2 := ((HPW.out.setg HGH.out.1 1 (.int .i64 (f2 : Int))).then_ HBB.out (below_drew (Below.refl _ _))).then_ HBB.out (below_drew (Below.refl _ _))
    rw [← hW2] at hP2 ⊢
    have hx7 : W2.cell? ⟨g, 3, none⟩ = some (.int .i64 zl) := hS2.cell3.trans (by rw [HZ.out.2.2])
    have hf7 : W2.frozen? ⟨g, 3, none⟩ = false := blk_frozen hS2.blk 3
    have HS2 := Aside0.mk hS2
    have HP2 := Aside0.mk hP2
    clear hS2 hP2 hW2 hx6 hf6
    go_wp2
    first | ((try simp only [Exit.inBlock, Exit.then]); refine bodyPost_ret (results_none rfl _ _ _) rfl ?_) | go_end0
    have e1 : wrap64 (zl + 1) = ((lost + 1 : Nat) : Int) := by have := HZ.out.2.2; have := HLL.out; unfold wrap64; omega
    have hlt : ¬ n < M := by have := HNM.out; omega
    refine ⟨rfl, ?_, HP2.out.setg HGH.out.1 3 _⟩
    unfold pushF pushN pushL
    rw [if_neg hlt, if_neg hlt, if_neg hlt, ← HF2.out]
    exact HS2.out.set 3 _ (by rw [e1]; rfl)
set_option maxHeartbeats 8000000 in
set_option maxRecDepth 100000 in
theorem BSt.Push_none {B g h first n lost : Nat} {ring : List (List S28)} {rv : Value} {w : World} (s : BSt B g h 0 first n lost ring rv w) (hl : lost ≤ 1000000) (v2 : Value) :
    Calls Tryd.prog 10 #[.pointer (some ⟨g, 0, none⟩), v2] w fun e w' => e = .returned (.tuple #[]) ∧ BSt B g h 0 first n (lost + 1) ring rv w' ∧ Stp B g h w w' := by
  obtain ⟨A0, c, rfl, hA⟩ := s.rvf
  obtain ⟨zl, hzl⟩ : ∃ z : Int, z = (lost : Int) := ⟨_, rfl⟩
  have hg0 := s.cell0
  have hg3 := s.cell3
  have hf3 : w.frozen? ⟨g, 3, none⟩ = false := blk_frozen s.blk 3
  rw [← hzl] at hg3
  have HS := Aside0.mk s
  have HZ := Aside0.mk (And.intro hzl hl)
  clear s hA hzl hl
  go_enter Tryd.func10, Tryd.ntmps10
  go_wp2
  first | ((try simp only [Exit.inBlock, Exit.then]); refine bodyPost_ret (results_none rfl _ _ _) rfl ?_) | go_end0
  have e1 : wrap64 (zl + 1) = ((lost + 1 : Nat) : Int) := by have := HZ.out; unfold wrap64; omega
  exact ⟨rfl, HS.out.set 3 _ (by rw [e1]; rfl), (Stp.refl B g h w).setg HS.out.gh.1 3 _⟩
set_option maxHeartbeats 8000000 in
set_option maxRecDepth 100000 in
theorem BSt.Len_calls {B g h M first n lost : Nat} {ring : List (List S28)} {rv : Value} {w : World} (s : BSt B g h M first n lost ring rv w) : Calls Tryd.prog 11 #[.pointer (some ⟨g, 0, none⟩)] w fun e w' => e = .returned (.int .i64 (n : Int)) ∧ Below w.heap.size w w' := by
  have hc := s.cell2
  clear s
  generalize (n : Int) = z at hc ⊢
  go_enter Tryd.func11, Tryd.ntmps11
  go_wp2
  go_ret
  exact ⟨rfl, Below.refl _ _⟩
set_option maxHeartbeats 8000000 in
set_option maxRecDepth 100000 in
theorem BSt.Lost_calls {B g h M first n lost : Nat} {ring : List (List S28)} {rv : Value} {w : World} (s : BSt B g h M first n lost ring rv w) : Calls Tryd.prog 12 #[.pointer (some ⟨g, 0, none⟩)] w fun e w' => e = .returned (.int .i64 (lost : Int)) ∧ Below w.heap.size w w' := by
  have hc := s.cell3
  clear s
  generalize (lost : Int) = z at hc ⊢
  go_enter Tryd.func12, Tryd.ntmps12
  go_wp2
  go_ret
  exact ⟨rfl, Below.refl _ _⟩

theorem BSt.new {w0 w : World} {M g : Nat} {v1 : Value} (hS : Kd.S (Kd.slice 28 k28) 22 w w0.heap.size (fun _ => True) v1 (List.replicate M [])) (hb : w.heap[g]? = some (.cells #[v1, .int .i64 0, .int .i64 0, .int .i64 0] 47 (0, 0))) (hg : w0.heap.size ≤ g) : ∃ h, BSt w0.heap.size g h M 0 0 0 (List.replicate M []) v1 w := by
  by_cases hM : 0 < M
  · obtain ⟨h, cap, rfl, hbase, hlt, cells, hc⟩ := Kd.S_form hS (by rw [List.length_replicate]; exact hM)
    have hC := (Kd.S_reads' hS).2.2
    rw [List.length_replicate] at hC
    refine ⟨h, ⟨⟨_, _, by rw [List.length_replicate], fun _ => rfl⟩, hb, List.length_replicate, ⟨hg, fun _ => ⟨hbase, fun e => ?_⟩⟩, fun _ => ⟨cells, hc, ?_, fun i hi => ?_⟩⟩⟩
    · rw [e, hc] at hb
      injection hb with hb
      injection hb with _ hb
      cases hb
    · obtain ⟨ad, e, hcell⟩ := hC.2.2 hM
      injection e with e
      subst e
      obtain ⟨c, h1, ⟨A, c', h2, h3, h4⟩, h5⟩ := hcell (M - 1) [] (by rw [List.getElem?_replicate, if_pos (by omega)])
      subst h2
      have h6 := h5 0 _ rfl
      rw [add_plain, cell_of_row w h _ cells 22 (0, 0) hc] at h6
      have h7 := (Array.getElem?_eq_some_iff.1 h6).1
      have h8 : (M - 1) * (Kd.slice 28 k28).sz + 0 = M - 1 := by show (M - 1) * 1 + 0 = M - 1; omega
      omega
    · rw [List.length_replicate] at hi
      obtain ⟨ad, e, hcell⟩ := hC.2.2 hM
      injection e with e
      subst e
      obtain ⟨c, h1, ⟨A, c', h2, h3, h4⟩, h5⟩ := hcell i [] (by rw [List.getElem?_replicate, if_pos hi])
      subst h2
      have h6 := h5 0 _ rfl
      rw [add_plain, cell_of_row w h _ cells 22 (0, 0) hc, show i * (Kd.slice 28 k28).sz + 0 = i by show i * 1 + 0 = i; omega] at h6
      rw [List.getElem_replicate]
      exact ⟨A, c', h6, Nat.zero_le _, fun W' _ => ⟨rfl, by decide, fun h => absurd h (by decide)⟩⟩
  · obtain ⟨A, c, e⟩ := Kd.S_slice hS
    rw [List.length_replicate] at e
    exact ⟨0, ⟨⟨A, c, e, fun h => absurd h hM⟩, hb, List.length_replicate, ⟨hg, fun h => absurd h hM⟩, fun h => absurd h hM⟩⟩
def cellsOf (x : S28) : List Value := [.int .i32 x.f0, .int .i64 x.f1.f0, .int .i64 x.f1.f1, .int .i64 x.f1.f2]
theorem flat_at (xs : List S28) (j i : Nat) (p : S28) (u : Value) (hp : xs[j]? = some p) (hu : (cellsOf p)[i]? = some u) : (xs.flatMap cellsOf)[j * 4 + i]? = some u := by
  have hi : i < 4 := (List.getElem?_eq_some_iff.1 hu).1
  induction xs generalizing j with
  | nil => simp at hp
  | cons x xs ih =>
    rw [List.flatMap_cons]
    cases j with
    | zero =>
      have : x = p := by simpa using hp
      subst this
      rw [List.getElem?_append_left (by show 0 * 4 + i < 4; omega), Nat.zero_mul, Nat.zero_add]
      exact hu
    | succ j =>
      rw [List.getElem?_append_right (by show 4 ≤ (j + 1) * 4 + i; omega)]
      have h := ih j (by simpa using hp)
      rw [show (j + 1) * 4 + i - (cellsOf x).length = j * 4 + i by show (j + 1) * 4 + i - 4 = _; omega]
      exact h
theorem C_lits (w : World) (g : Nat) (xs : List S28) (cells : List Value) (hb : w.heap[g]? = some (.cells cells.toArray 28 (0, 0))) (hc : cells = xs.flatMap cellsOf) (hl : xs.length ≤ 1000) : Kd.C k28 w (some ⟨g, 0, none⟩) xs.length xs := by
  refine ⟨rfl, by omega, fun _ => ⟨_, rfl, fun j p hp => ⟨cellsOf p, rfl, k28_mk w p, fun i u hu => ?_⟩⟩⟩
  rw [add_plain, cell_of_row w g _ _ 28 (0, 0) hb, List.getElem?_toArray, hc]
  exact flat_at xs j i p u hp hu

theorem push_lit {w w1 : World} {g h first n lost : Nat} {ring : List (List S28)} {rv : Value} (hst : BSt w.heap.size g h 1 first n lost ring rv w1) (hB : Below w.heap.size w w1) (hf : first = 0) (hn : n ≤ 1) (hl : lost ≤ 5) (xs s : List S28) (m : Nat) (hm : xs.length = m) (cells : Array Value) (hc : cells = (xs.flatMap cellsOf).toArray) (hx : xs.length ≤ 1000) (k : Nat) (hk : back_Cut.f k xs = some s) :
    Calls Tryd.prog 10 #[.pointer (some ⟨g, 0, none⟩), .slice (some ⟨w1.heap.size, 0, none⟩) m m] (w1.alloc (.cells cells 28)) fun e w2 => e = .returned (.tuple #[]) ∧ BSt w.heap.size g h 1 (pushF 1 first n) (pushN 1 n) (pushL 1 n lost) (ring.set 0 s) rv w2 ∧ Below w.heap.size w w2 := by
  have hb := below_alloc (Below.refl w1.heap.size w1) (.cells cells 28)
  subst hm
  refine (BSt.Push_calls (hst.below hb) (Nat.le_trans hB.size hb.size) (by decide) (by decide) hn (by omega) (by omega) 0 (by rw [hf]; omega) (some ⟨w1.heap.size, 0, none⟩) xs.length xs s (C_lits _ _ xs _ (by rw [heap_alloc_new, hc]) rfl hx) (Nat.le_refl _) k hk).mono ?_
  rintro e w2 ⟨rfl, hs, hst⟩
  exact ⟨rfl, hs, (below_step hB hb).trans hst.below⟩
set_option maxHeartbeats 8000000 in
set_option maxRecDepth 100000 in
theorem awake15_calls (k1 k2 k3 : Nat) (s1 : List S28) (h1 : back_Cut.f k1 [⟨97, ⟨0, 0, 0⟩⟩] = some s1) (h2 : back_Cut.f k2 [⟨98, ⟨0, 0, 0⟩⟩, ⟨32, ⟨0, 0, 0⟩⟩] = some [⟨98, ⟨0, 0, 0⟩⟩]) (h3 : cell_Text.f k3 [⟨98, ⟨0, 0, 0⟩⟩] = some ⟨#[98]⟩) (w : World) : Calls Tryd.prog 5 #[] w fun e w' => e = .returned (.bool true) ∧ Below w.heap.size w w' := by
  have HN := Aside0.mk (back_New.calls 1 true [[]] 0 0 0 0 w rfl)
  have H1 := Aside0.mk h1
  have H2 := Aside0.mk h2
  have H3 := Aside0.mk h3
  have hpw := ptrW_true
  clear h1 h2 h3
  go_enter Tryd.func5, Tryd.ntmps5
  go_wp2_with (first
    | (go_at_call 8; refine HN.out.mono ?_; rintro e w1 ⟨v1, g, ⟨rfl, hS, hb, hg, hB⟩⟩; obtain ⟨h, hst⟩ := BSt.new (M := 1) hS (hb rfl) hg; have HP1 := Aside0.mk (push_lit hst hB rfl (by decide) (by decide) [⟨97, ⟨0, 0, 0⟩⟩] s1 1 rfl #[.int .i32 97, .int .i64 0, .int .i64 0, .int .i64 0] rfl (by decide) k1 H1.out); clear hS hb hst hB hg)
    | (go_at_call 10; with_reducible refine HP2.out.mono ?_; rintro e w3 ⟨rfl, hst3, hb3⟩; have HST3 := Aside0.mk hst3; have HB3 := Aside0.mk hb3; clear hst3 hb3)
    | (go_at_call 10; with_reducible refine HP1.out.mono ?_; rintro e w2 ⟨rfl, hst2, hb2⟩; have HP2 := Aside0.mk (push_lit hst2 hb2 (by decide) (by decide) (by decide) [⟨98, ⟨0, 0, 0⟩⟩, ⟨32, ⟨0, 0, 0⟩⟩] [⟨98, ⟨0, 0, 0⟩⟩] 2 rfl #[.int .i32 98, .int .i64 0, .int .i64 0, .int .i64 0, .int .i32 32, .int .i64 0, .int .i64 0, .int .i64 0] rfl (by decide) k2 H2.out); clear hst2 hb2)
    | (go_at_call 15; refine (HST3.out.Text_calls 0 (by decide) (by decide) (by decide) (by decide) 0 (by decide) [⟨98, ⟨0, 0, 0⟩⟩] rfl (by decide) k3 _ H3.out).mono ?_; rintro e w4 ⟨rfl, hb4⟩; have HST4 := Aside0.mk (HST3.out.below hb4); have HB4 := Aside0.mk hb4; clear hb4)
    | (go_at_call 12; refine HST4.out.Lost_calls.mono ?_; rintro e w5 ⟨rfl, hb5⟩; have HST5 := Aside0.mk (HST4.out.below hb5); have HB5 := Aside0.mk hb5; clear hb5)
    | (go_at_call 11; refine HST5.out.Len_calls.mono ?_; rintro e w6 ⟨rfl, hb6⟩; have HB6 := Aside0.mk hb6; clear hb6))
  go_ret
  exact ⟨rfl, below_step (below_step (below_step HB3.out HB4.out) HB5.out) HB6.out⟩

theorem aw_a : back_Cut.f 3 [⟨97, ⟨0, 0, 0⟩⟩] = some [(⟨97, ⟨0, 0, 0⟩⟩ : S28)] := by simp [back_Cut.f, back_Cut.l0, cell_Blank.f, rd_T28, wrap64, api_Cell.f]
theorem aw_b : back_Cut.f 3 [⟨98, ⟨0, 0, 0⟩⟩, ⟨32, ⟨0, 0, 0⟩⟩] = some [(⟨98, ⟨0, 0, 0⟩⟩ : S28)] := by simp [back_Cut.f, back_Cut.l0, cell_Blank.f, rd_T28, wrap64, api_Cell.f]
theorem aw_c : cell_Text.f 6 [⟨98, ⟨0, 0, 0⟩⟩] = some ⟨#[98]⟩ := by decide +kernel

def batonlaw15_awake.f : Option Bool := some true
theorem batonlaw15_awake.calls (r : Bool) (w : World) (h : batonlaw15_awake.f = some r) :
    Calls Tryd.prog 5 #[] w fun e w' => e = .returned (.bool r) ∧ Below w.heap.size w w' := by
  obtain rfl := Option.some.inj h
  exact awake15_calls 3 3 6 _ aw_a aw_b aw_c w

end Go.Proofs.YtgnbhomdkchcfaaDoor.PF15P
