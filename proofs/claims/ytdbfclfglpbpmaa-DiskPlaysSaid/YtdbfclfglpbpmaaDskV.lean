/- Shows: a disk is the document's. No condition. -/
import Derived.Test.YtdbfclfglpbpmaaDskU
namespace Go.Proofs.Ytdbfclfglpbpmaa.Dsk
open Go.AnyFacts Go.Proofs.Ytdbfclfglpbpmaa.Sha Go.RowKit Go.Proofs.YtdbfclfglpbpmaaW.Hand Go.Proofs.YtdbfclfglpbpmaaW.PrintWords Go.Proofs.YtdbfclfglpbpmaaW.PrintLast Go.Proofs.YtdbfclfglpbpmaaW.PrintMore Go.Proofs.Ytdbfclfglpbpmaa.PF21 Go.Proofs.Ytdbfclfglpbpmaa.Base Go.Proofs.Ytdbfclfglpbpmaa.LF21
attribute [local go_sem] max2_int min2_int max_two min_two max_three min_three max_four min_four
set_option linter.unusedVariables false
set_option linter.unusedSimpArgs false

section
variable {B M0 g : Nat} {Q : Nat → Prop} {bv dv wv v0 v1 v2 : Value} {bl : List (List Int)} {wt : List S154} {ws : List S183} {bad : List Int} {down cut : Bool} {left : Int} {w w1 : World}
/-- What is read of block i. -/
def seen (down : Bool) (ws : List S183) (bl : List (List Int)) (i : Nat) : List Int := if down then [] else lastR (i : Int) ws (bl.getD i [])
def seenC (down : Bool) : Int := if down then 19 else 0
theorem lastR_len (n : Int) : ∀ (ws : List S183) (b : List Int), b.length ≤ 256 → (∀ x ∈ ws, x.f1.length ≤ 256) → (lastR n ws b).length ≤ 256
  | [], _, h, _ => h
  | x :: ws, b, h, hw => by
    refine lastR_len n ws _ ?_ (fun y hy => hw y (List.mem_cons_of_mem _ hy))
    split
    · exact hw x List.mem_cons_self
    · exact h
theorem seen_len (down : Bool) (i : Nat) (hwf : WFd bl (ws.map toW)) : (seen down ws bl i).length ≤ 256 := by
  unfold seen
  split
  · exact Nat.zero_le _
  · refine lastR_len _ _ _ ?_ (fun x hx => Nat.le_of_eq (hwf.2 (toW x) (List.mem_map_of_mem hx)).2.2)
    by_cases hi : i < bl.length
    · rw [rdl _ hi]
      exact Nat.le_of_eq (hwf.1 _ (List.getElem_mem hi))
    · rw [List.getD_eq_getElem?_getD, List.getElem?_eq_none (by omega)]
      exact Nat.zero_le _
theorem DSt.Read_any (s : DSt B M0 g bv dv wv bl (ws.map toW) bad down left w) (hwf : WFd bl (ws.map toW)) (hw : ws.length ≤ 1000) (z : Int) (i : Nat) (hz : z = (i : Int)) (hi : i < bl.length) : Calls Try.prog 54 #[.pointer (some ⟨g, 0, none⟩), .int .i64 z] w fun e w' => ∃ A c, e = .returned (.tuple #[.slice A (seen down ws bl i).length c, .int .i64 (seenC down)]) ∧ (seen down ws bl i).length ≤ c ∧ Kd.C (Kd.int .u8) w' A (seen down ws bl i).length (seen down ws bl i) ∧ Below w.heap.size w w' := by
  cases hd : down with
  | true =>
    refine (s.Read_down hd z).mono ?_
    rintro e w' ⟨rfl, hb⟩
    exact ⟨none, 0, rfl, Nat.le_refl _, Kd.C_nil _ _, hb⟩
  | false =>
    refine (s.Read hd z i hz hi (by rw [hwf.1 _ (List.getElem_mem hi)]; decide) (by rw [List.length_map]; exact hw) (fun x hx => by rw [(hwf.2 x hx).2.2]; decide)).mono ?_
    rintro e w' ⟨v, rfl, hr, hb⟩
    have e1 : lastW z (ws.map toW) bl[i] = seen false ws bl i := by
      unfold seen
      rw [if_neg (by decide), last_eq, hz, rdl _ hi]
    rw [e1] at hr
    obtain ⟨A, c, rfl, hl, hC⟩ := Kd.R_reads hr
    exact ⟨A, c, rfl, hl, hC, hb⟩
theorem RSt.Read_any {P : Nat → Prop} (s : RSt P v0 v1 v2 bl ws bad w) (hw : ws.length ≤ 1000) (z : Int) (i : Nat) (hz : z = (i : Int)) (hi : i < bl.length) : Calls Try.prog 87 #[.agg (stC v0 v1 v2 down cut left), .int .i64 z] w fun e w' => ∃ A c, e = .returned (.tuple #[.slice A (seen down ws bl i).length c, .int .i64 (seenC down)]) ∧ (seen down ws bl i).length ≤ c ∧ Kd.C (Kd.int .u8) w' A (seen down ws bl i).length (seen down ws bl i) ∧ Below w.heap.size w w' := by
  subst hz
  refine (s.Read i hi hw).mono ?_
  rintro e w' ⟨v, rfl, hv, hb⟩
  have e1 : (if down then [] else lastR (i : Int) ws bl[i]) = seen down ws bl i := by unfold seen; rw [rdl _ hi]
  rw [e1] at hv
  obtain ⟨A, c, rfl⟩ := Kd.V_slice hv
  obtain ⟨_, hl, hF⟩ := Kd.V_at hv
  exact ⟨A, c, rfl, hl, Kd.F_now hF, hb⟩
theorem Same_yes (l : List Int) (hl : l.length ≤ 1000) : ∃ k, batonref01_Same.f k l l = some true := (ev_eq (Same_ev l l (by omega)) (decide_eq_true rfl)).rounds
end
def Dv53_1.T : Bool × List (List Nat × List Nat) := (true, [([], []), ([0], [0]), ([], []), ([2], [2]), ([3], [3]), ([1, 4], [1, 4]), ([5, 1], [5]), ([6], [6]), ([7, 6, 6], [6, 7]), ([6], [6]), ([9, 6], [6, 9]), ([8, 10, 6], [6, 8, 10]), ([6, 11], [6, 11]), ([12, 8], [12]), ([13], [13]), ([14, 13, 13], [13, 14]), ([13], [13]), ([16, 13], [13, 16]), ([17, 13], [13, 17]), ([15, 18, 13], [13, 15, 18]), ([13, 19], [13, 19])])
def Dv53_1.B : List Nat := [0, 1, 0, 4, 12, 31, 63, 127, 255, 127, 639, 2047, 4095, 8191, 16383, 32767, 16383, 81919, 212991, 524287, 1048575]
theorem Dv53_1.tab : rtab .any (opsOf Try.f53 1) = Dv53_1.T := by kernel_rfl
theorem Dv53_1.bits : waitsOk Dv53_1.T.2 Dv53_1.B = true := by kernel_rfl
def Dv53_8.T : Bool × List (List Nat × List Nat) := (true, [([], []), ([], []), ([0, 1], [0, 1]), ([2], [2]), ([3], [3]), ([3], [3]), ([4, 5, 3, 3], [3, 4, 5]), ([6, 3], [3, 6]), ([3, 7], [3, 7]), ([8, 6], [8]), ([9], [9]), ([9], [9]), ([10, 11, 9, 9], [9, 10, 11]), ([9], [9]), ([13, 9], [9, 13]), ([9], [9]), ([14, 15, 9], [9, 14, 15]), ([16, 9], [9, 16]), ([12, 17, 12, 9], [9, 12, 17]), ([18, 9], [9, 18]), ([9, 19], [9, 19])])
def Dv53_8.B : List Nat := [0, 0, 3, 7, 15, 15, 63, 127, 255, 511, 1023, 1023, 4095, 1023, 9215, 1023, 58367, 123903, 262143, 524287, 1048575]
theorem Dv53_8.tab : rtab .any (opsOf Try.f53 8) = Dv53_8.T := by kernel_rfl
theorem Dv53_8.bits : waitsOk Dv53_8.T.2 Dv53_8.B = true := by kernel_rfl
set_option maxHeartbeats 8000000 in
set_option maxRecDepth 100000 in
theorem Shows_up {Q : Nat → Prop} {B M0 g nb i : Nat} {bv dv wv v0 v1 v2 : Value} {bl : List (List Int)} {ws : List S183} {bad : List Int} {down cut : Bool} {left : Int} {w : World} (t : Two B M0 g bv dv wv bl (ws.map toW) bad down (dl cut left) Q v0 v1 v2 bl ws w) (fi : Fit nb i bl ws bad left) (hi : i ≤ 100) (hnb : nb ≤ 300) (hd : down = false) : Calls Try.prog 53 #[.pointer (some ⟨g, 0, none⟩), .agg (stC v0 v1 v2 down cut left)] w fun e w' => e = .returned (.bool true) ∧ Below w.heap.size w w' := by
  subst hd
  obtain ⟨A0, c0, rfl⟩ := Kd.V_slice t.rf.b
  obtain ⟨A1, c1, rfl⟩ := Kd.V_slice t.rf.q
  obtain ⟨A2, c2, rfl⟩ := Kd.V_slice t.rf.d
  have HT := Aside0.mk t
  have HFI := Aside0.mk fi
  have HI100 := Aside0.mk hi
  have HNB := Aside0.mk hnb
  have hne1 : ((bl.length : Int) != (bl.length : Int)) = false := by simp
  have hne2 : ((ws.length : Int) != (ws.length : Int)) = false := by simp
  clear t fi hi hnb
  go_enter Try.func53, Try.ntmps53
  go_wp2_with (first
    | ((with_reducible refine gate_dst (N := 3) rfl ?_); refine L_box rfl 102 (.tmp 1) rfl (.agg #[.slice A0 bl.length c0, .slice A1 ws.length c1, .slice A2 bad.length c2, .bool false, .bool cut, .int .i64 left]) rfl ?_; intro g3 w1 hb hg hs hl; have HK3 := Aside0.mk hb; have HB1 := Aside0.mk hl; clear hb hg hs hl))
  have HT1 := Aside0.mk (HT.out.later HB1.out)
  have HBw1d := Aside0.mk (show Below w1.heap.size w1 w1.drew from below_drew (Below.refl _ _))
  have HCS := Aside0.mk (fun (W : World) (hb : Below w1.heap.size w1 W) => (show W.cell? ⟨g3, 0, none⟩ = some (.slice A0 bl.length c0) ∧ W.cell? ⟨g3, 1, none⟩ = some (.slice A1 ws.length c1) ∧ W.cell? ⟨g3, 3, none⟩ = some (.bool false) from ⟨(blk_cell (blk_below HK3.out hb) 0).trans rfl, (blk_cell (blk_below HK3.out hb) 1).trans rfl, (blk_cell (blk_below HK3.out hb) 3).trans rfl⟩))
  refine start_ (n := 21) (S := fun w' => w'.cell? ⟨g3, 0, none⟩ = some (.slice A0 bl.length c0) ∧ w'.cell? ⟨g3, 1, none⟩ = some (.slice A1 ws.length c1) ∧ w'.cell? ⟨g3, 3, none⟩ = some (.bool false)) (ds := []) #[false, false, false, false, false, false, false, false, false, false, false, false, false, false, false, false, false, false, false, false, false] (by kernel_rfl) rfl rfl ⟨(HCS.out w1.drew HBw1d.out).1, (HCS.out w1.drew HBw1d.out).2.1, (HCS.out w1.drew HBw1d.out).2.2⟩ (fun hHeld => ?_); refine with_tabW Dv53_1.tab Dv53_1.bits (fun HT_ HW_ => ?_)
  refine pure_ (i := 0) (N := some 10) (v := ?_) (a' := ?_) #[true, false, false, false, false, false, false, false, false, false, false, false, false, false, false, false, false, false, false, false, false] rfl rfl (any_of HT_.out (by kernel_rfl)) (fun _ _ _ h => h) (Or.inl ⟨by rfl, ?_⟩) ?_ ?_
  rotate_left
  · intro w'
    go_simp
    with_reducible rfl
  rotate_left
  · simp only [Act.put, List.setIfInBounds_toArray, List.set_cons_zero, List.set_cons_succ, i64_w, i32_w]
    rfl
  refine pure_ (i := 2) (N := some 12) (v := ?_) (a' := ?_) #[true, false, true, false, false, false, false, false, false, false, false, false, false, false, false, false, false, false, false, false, false] rfl rfl (any_of HT_.out (by kernel_rfl)) (fun _ _ _ h => h) (Or.inl ⟨by rfl, ?_⟩) ?_ ?_
  rotate_left
  · intro w'
    go_simp
    with_reducible rfl
  rotate_left
  · simp only [Act.put, List.setIfInBounds_toArray, List.set_cons_zero, List.set_cons_succ, i64_w, i32_w]
    rfl
  refine take_ (i := 3) (N := some 13) (v := ?_) (a' := ?_) #[true, false, true, true, false, false, false, false, false, false, false, false, false, false, false, false, false, false, false, false, false] rfl rfl (take_ofW HT_.out HW_.out (by kernel_rfl)) (fun _ _ _ h => h) (Or.inl ⟨by rfl, ?_⟩) hHeld ?_ ?_
  rotate_left
  · rintro w' ⟨s0, s1, s2⟩
    go_simp
    with_reducible rfl
  rotate_left
  · simp only [Act.put, List.setIfInBounds_toArray, List.set_cons_zero, List.set_cons_succ, i64_w, i32_w]
    rfl
  refine pure_ (i := 4) (N := some 14) (v := ?_) (a' := ?_) #[true, false, true, true, true, false, false, false, false, false, false, false, false, false, false, false, false, false, false, false, false] rfl rfl (any_of HT_.out (by kernel_rfl)) (fun _ _ _ h => h) (Or.inl ⟨by rfl, ?_⟩) ?_ ?_
  rotate_left
  · intro w'
    go_simp
    with_reducible rfl
  rotate_left
  · simp only [Act.put, List.setIfInBounds_toArray, List.set_cons_zero, List.set_cons_succ, i64_w, i32_w]
    rfl
  refine one_ (i := 1) (N := some 11) #[true, true, true, true, true, false, false, false, false, false, false, false, false, false, false, false, false, false, false, false, false] rfl rfl (one_of HT_.out (by kernel_rfl)) (by decide) (fun Kq hKq => ?_)
  refine goes_ Try.func84 (by kernel_rfl) rfl #[.pointer (some ⟨g, 0, none⟩)] (by rfl) rfl rfl (by (try simp only [List.map_toArray, List.map_cons, List.map_nil]); first | done | rfl) ?_
  refine ((HT1.out.later HBw1d.out).st.Blocks).mono ?_
  rintro e w2 ⟨rfl, hb⟩
  try rw [List.length_map]
  have HBw2 := Aside0.mk (below_step HBw1d.out hb)
  clear hb
  refine ⟨_, rfl, ?_⟩
  refine hKq.out _ _ (HCS.out w2 HBw2.out) (fun hHeld => ?_)
  clear hKq Kq
  refine norm_ (a' := ?_) ?_ ?_
  rotate_left
  · show Act.put _ (some 11) _ = _
    simp only [Act.put, List.setIfInBounds_toArray, List.set_cons_zero, List.set_cons_succ, i64_w, i32_w]
    rfl
  refine pure_ (i := 5) (N := some 15) (v := ?_) (a' := ?_) #[true, true, true, true, true, true, false, false, false, false, false, false, false, false, false, false, false, false, false, false, false] rfl rfl (any_of HT_.out (by kernel_rfl)) (fun _ _ _ h => h) (Or.inl ⟨by rfl, ?_⟩) ?_ ?_
  rotate_left
  · intro w'
    go_simp
    with_reducible rfl
  rotate_left
  · simp only [Act.put, List.setIfInBounds_toArray, List.set_cons_zero, List.set_cons_succ, i64_w, i32_w]
    rfl
  refine pure_ (i := 6) (N := some 16) (v := ?_) (a' := ?_) #[true, true, true, true, true, true, true, false, false, false, false, false, false, false, false, false, false, false, false, false, false] rfl rfl (any_of HT_.out (by kernel_rfl)) (fun _ _ _ h => h) (Or.inl ⟨by rfl, ?_⟩) ?_ ?_
  rotate_left
  · intro w'
    go_simp
    with_reducible rfl
  rotate_left
  · simp only [Act.put, List.setIfInBounds_toArray, List.set_cons_zero, List.set_cons_succ, i64_w, i32_w]
    rfl
  refine pure_ (i := 7) (N := some 17) (v := ?_) (a' := ?_) #[true, true, true, true, true, true, true, true, false, false, false, false, false, false, false, false, false, false, false, false, false] rfl rfl (any_of HT_.out (by kernel_rfl)) (fun _ _ _ h => h) (Or.inl ⟨by rfl, ?_⟩) ?_ ?_
  rotate_left
  · intro w'
    go_simp
    with_reducible rfl
  rotate_left
  · simp only [Act.put, List.setIfInBounds_toArray, List.set_cons_zero, List.set_cons_succ, i64_w, i32_w]
    rfl
  refine pure_ (i := 9) (N := some 19) (v := ?_) (a' := ?_) #[true, true, true, true, true, true, true, true, false, true, false, false, false, false, false, false, false, false, false, false, false] rfl rfl (any_of HT_.out (by kernel_rfl)) (fun _ _ _ h => h) (Or.inl ⟨by rfl, ?_⟩) ?_ ?_
  rotate_left
  · intro w'
    go_simp
    with_reducible rfl
  rotate_left
  · simp only [Act.put, List.setIfInBounds_toArray, List.set_cons_zero, List.set_cons_succ, i64_w, i32_w]
    rfl
  refine take_ (i := 10) (N := some 20) (v := ?_) (a' := ?_) #[true, true, true, true, true, true, true, true, false, true, true, false, false, false, false, false, false, false, false, false, false] rfl rfl (take_ofW HT_.out HW_.out (by kernel_rfl)) (fun _ _ _ h => h) (Or.inl ⟨by rfl, ?_⟩) hHeld ?_ ?_
  rotate_left
  · rintro w' ⟨s0, s1, s2⟩
    go_simp
    with_reducible rfl
  rotate_left
  · simp only [Act.put, List.setIfInBounds_toArray, List.set_cons_zero, List.set_cons_succ, i64_w, i32_w]
    rfl
  refine one_ (i := 8) (N := some 18) #[true, true, true, true, true, true, true, true, true, true, true, false, false, false, false, false, false, false, false, false, false] rfl rfl (one_of HT_.out (by kernel_rfl)) (by decide) (fun Kq hKq => ?_)
  refine goes_ Try.func85 (by kernel_rfl) rfl #[.pointer (some ⟨g, 0, none⟩)] (by rfl) rfl rfl (by (try simp only [List.map_toArray, List.map_cons, List.map_nil]); first | done | rfl) ?_
  refine ((HT1.out.later HBw2.out).st.Up).mono ?_
  rintro e w3 ⟨rfl, hb⟩
  try rw [List.length_map]
  have HBw3 := Aside0.mk (below_step HBw2.out hb)
  clear hb
  refine ⟨_, rfl, ?_⟩
  refine hKq.out _ _ (HCS.out w3 HBw3.out) (fun hHeld => ?_)
  clear hKq Kq
  refine norm_ (a' := ?_) ?_ ?_
  rotate_left
  · show Act.put _ (some 18) _ = _
    simp only [Act.put, List.setIfInBounds_toArray, List.set_cons_zero, List.set_cons_succ, i64_w, i32_w]
    rfl
  refine pure_ (i := 11) (N := some 21) (v := ?_) (a' := ?_) #[true, true, true, true, true, true, true, true, true, true, true, true, false, false, false, false, false, false, false, false, false] rfl rfl (any_of HT_.out (by kernel_rfl)) (fun _ _ _ h => h) (Or.inl ⟨by rfl, ?_⟩) ?_ ?_
  rotate_left
  · intro w'
    go_simp
    with_reducible rfl
  rotate_left
  · simp only [Act.put, List.setIfInBounds_toArray, List.set_cons_zero, List.set_cons_succ, i64_w, i32_w]
    rfl
  refine pure_ (i := 12) (N := some 22) (v := ?_) (a' := ?_) #[true, true, true, true, true, true, true, true, true, true, true, true, true, false, false, false, false, false, false, false, false] rfl rfl (any_of HT_.out (by kernel_rfl)) (fun _ _ _ h => h) (Or.inl ⟨by rfl, ?_⟩) ?_ ?_
  rotate_left
  · intro w'
    go_simp
    with_reducible rfl
  rotate_left
  · simp only [Act.put, List.setIfInBounds_toArray, List.set_cons_zero, List.set_cons_succ, i64_w, i32_w]
    rfl
  refine pure_ (i := 13) (N := some 23) (v := ?_) (a' := ?_) #[true, true, true, true, true, true, true, true, true, true, true, true, true, true, false, false, false, false, false, false, false] rfl rfl (any_of HT_.out (by kernel_rfl)) (fun _ _ _ h => h) (Or.inl ⟨by rfl, ?_⟩) ?_ ?_
  rotate_left
  · intro w'
    go_simp
    with_reducible rfl
  rotate_left
  · simp only [Act.put, List.setIfInBounds_toArray, List.set_cons_zero, List.set_cons_succ, i64_w, i32_w]
    rfl
  refine pure_ (i := 14) (N := some 24) (v := ?_) (a' := ?_) #[true, true, true, true, true, true, true, true, true, true, true, true, true, true, true, false, false, false, false, false, false] rfl rfl (any_of HT_.out (by kernel_rfl)) (fun _ _ _ h => h) (Or.inl ⟨by rfl, ?_⟩) ?_ ?_
  rotate_left
  · intro w'
    go_simp
    with_reducible rfl
  rotate_left
  · simp only [Act.put, List.setIfInBounds_toArray, List.set_cons_zero, List.set_cons_succ, i64_w, i32_w]
    rfl
  refine pure_ (i := 16) (N := some 26) (v := ?_) (a' := ?_) #[true, true, true, true, true, true, true, true, true, true, true, true, true, true, true, false, true, false, false, false, false] rfl rfl (any_of HT_.out (by kernel_rfl)) (fun _ _ _ h => h) (Or.inl ⟨by rfl, ?_⟩) ?_ ?_
  rotate_left
  · intro w'
    go_simp
    with_reducible rfl
  rotate_left
  · simp only [Act.put, List.setIfInBounds_toArray, List.set_cons_zero, List.set_cons_succ, i64_w, i32_w]
    rfl
  refine take_ (i := 17) (N := some 27) (v := ?_) (a' := ?_) #[true, true, true, true, true, true, true, true, true, true, true, true, true, true, true, false, true, true, false, false, false] rfl rfl (take_ofW HT_.out HW_.out (by kernel_rfl)) (fun _ _ _ h => h) (Or.inl ⟨by rfl, ?_⟩) hHeld ?_ ?_
  rotate_left
  · rintro w' ⟨s0, s1, s2⟩
    go_simp
    with_reducible rfl
  rotate_left
  · simp only [Act.put, List.setIfInBounds_toArray, List.set_cons_zero, List.set_cons_succ, i64_w, i32_w]
    rfl
  refine pure_ (i := 18) (N := some 28) (v := ?_) (a' := ?_) #[true, true, true, true, true, true, true, true, true, true, true, true, true, true, true, false, true, true, true, false, false] rfl rfl (any_of HT_.out (by kernel_rfl)) (fun _ _ _ h => h) (Or.inl ⟨by rfl, ?_⟩) ?_ ?_
  rotate_left
  · intro w'
    go_simp
    with_reducible rfl
  rotate_left
  · simp only [Act.put, List.setIfInBounds_toArray, List.set_cons_zero, List.set_cons_succ, i64_w, i32_w]
    rfl
  refine one_ (i := 15) (N := some 25) #[true, true, true, true, true, true, true, true, true, true, true, true, true, true, true, true, true, true, true, false, false] rfl rfl (one_of HT_.out (by kernel_rfl)) (by decide) (fun Kq hKq => ?_)
  refine goes_ Try.func86 (by kernel_rfl) rfl #[.pointer (some ⟨g, 0, none⟩)] (by rfl) rfl rfl (by (try simp only [List.map_toArray, List.map_cons, List.map_nil]); first | done | rfl) ?_
  refine ((HT1.out.later HBw3.out).st.Waits).mono ?_
  rintro e w4 ⟨rfl, hb⟩
  try rw [List.length_map]
  have HBw4 := Aside0.mk (below_step HBw3.out hb)
  clear hb
  refine ⟨_, rfl, ?_⟩
  refine hKq.out _ _ (HCS.out w4 HBw4.out) (fun hHeld => ?_)
  clear hKq Kq
  refine norm_ (a' := ?_) ?_ ?_
  rotate_left
  · show Act.put _ (some 25) _ = _
    simp only [Act.put, List.setIfInBounds_toArray, List.set_cons_zero, List.set_cons_succ, i64_w, i32_w]
    rfl
  refine pure_ (i := 19) (N := some 29) (v := ?_) (a' := ?_) #[true, true, true, true, true, true, true, true, true, true, true, true, true, true, true, true, true, true, true, true, false] rfl rfl (any_of HT_.out (by kernel_rfl)) (fun _ _ _ h => h) (Or.inl ⟨by rfl, ?_⟩) ?_ ?_
  rotate_left
  · intro w'
    go_simp
    with_reducible rfl
  rotate_left
  · simp only [Act.put, List.setIfInBounds_toArray, List.set_cons_zero, List.set_cons_succ, i64_w, i32_w]
    rfl
  refine pure_ (i := 20) (N := some 30) (v := ?_) (a' := ?_) #[true, true, true, true, true, true, true, true, true, true, true, true, true, true, true, true, true, true, true, true, true] rfl rfl (any_of HT_.out (by kernel_rfl)) (fun _ _ _ h => h) (Or.inl ⟨by rfl, ?_⟩) ?_ ?_
  rotate_left
  · intro w'
    go_simp
    with_reducible rfl
  rotate_left
  · simp only [Act.put, List.setIfInBounds_toArray, List.set_cons_zero, List.set_cons_succ, i64_w, i32_w]
    rfl
  refine done_ (done_of HT_.out (by kernel_rfl)) ?_
  go_wp2
  clear hne1 hne2
  go_loopg [5] (bl.length + 1) (fun kq v5 wr => ∃ (z : Int) (ix : Nat), v5 = .int .i64 z ∧ Aside0 (z = (ix : Int) ∧ ix + kq = bl.length + 1 ∧ ix ≤ bl.length) ∧ Aside0 (Below w1.heap.size w1 wr))
  case atStart => exact ⟨0, 0, rfl, ⟨rfl, by omega, by omega⟩, HBw4⟩
  case round =>
    obtain ⟨z, ix, rfl, HK, HBR⟩ := hrel
    obtain ⟨hz, hk, hil⟩ := HK.out
    have hc0 := (HCS.out wr HBR.out).1
    clear HBw4
    cases gk with
    | zero => omega
    | succ k1 =>
      by_cases hi : ix < bl.length
      · have hib : decide (z < (bl.length : Int)) = true := decide_eq_true (by omega)
        have HTR0 := Aside0.mk (HT1.out.later HBR.out)
        have hwr : wrap64 (z + 1) = ((ix + 1 : Nat) : Int) := by have := HFI.out.len; have := HNB.out; rw [w64 (by omega) (by omega)]; omega
        have HWR := Aside0.mk hwr
        have HZ := Aside0.mk hz
        have HIX := Aside0.mk hi
        obtain ⟨sn, hsn⟩ : ∃ sn, seen false ws bl ix = sn := ⟨_, rfl⟩
        obtain ⟨yb, hyb⟩ : ∃ yb, bl[ix] = yb := ⟨_, rfl⟩
        have hybl : yb.length = 256 := by rw [← hyb]; exact HFI.out.wf.1 _ (List.getElem_mem hi)
        have HLS := Aside0.mk (fun (W : World) (hb : Below wr.heap.size wr W) => (by have h := (HTR0.out.later hb).st.Lies z ix hz hi (by rw [hyb, hybl]; decide); rw [hyb] at h; exact h : Calls Try.prog 50 #[.pointer (some ⟨g, 0, none⟩), .int .i64 z] W (fun e w' => ∃ v0 : Value, e = .returned v0 ∧ Kd.R (Kd.int .u8) 5 w' W.heap.size (fun _ => True) v0 yb ∧ Below W.heap.size W w')))
        obtain ⟨ks, hks⟩ := Same_yes sn (by have := seen_len false ix HFI.out.wf; rw [hsn] at this; omega)
        obtain ⟨ky, hky⟩ := Same_yes yb (by rw [hybl]; decide)
        have HKS := Aside0.mk hks
        have HKY := Aside0.mk hky
        have HRD := Aside0.mk (fun (W : World) (hb : Below wr.heap.size wr W) => (by have h := (HTR0.out.later hb).st.Read_any HFI.out.wf (by have := HFI.out.short; have := HI100.out; omega) z ix hz hi; rw [hsn] at h; exact h : Calls Try.prog 54 #[.pointer (some ⟨g, 0, none⟩), .int .i64 z] W (fun e w' => ∃ A c, e = .returned (.tuple #[.slice A sn.length c, .int .i64 (seenC false)]) ∧ sn.length ≤ c ∧ Kd.C (Kd.int .u8) w' A sn.length sn ∧ Below W.heap.size W w')))
        have HRR := Aside0.mk (fun (W : World) (hb : Below wr.heap.size wr W) => (by have h := (HTR0.out.later hb).rf.Read_any (down := false) (cut := cut) (left := left) (by have := HFI.out.short; have := HI100.out; omega) z ix hz hi; rw [hsn] at h; exact h : Calls Try.prog 87 #[.agg (stC (.slice A0 bl.length c0) (.slice A1 ws.length c1) (.slice A2 bad.length c2) false cut left), .int .i64 z] W (fun e w' => ∃ A c, e = .returned (.tuple #[.slice A sn.length c, .int .i64 (seenC false)]) ∧ sn.length ≤ c ∧ Kd.C (Kd.int .u8) w' A sn.length sn ∧ Below W.heap.size W w')))
        have hsc : (seenC false != seenC false) = false := by simp
        have p1 := eq_true (show (0 : Int) ≤ z by omega)
        have q1 := eq_true (show z < (bl.length : Int) by omega)
        obtain ⟨_, hc00, hF0⟩ := Kd.V_at HTR0.out.rf.b
        obtain ⟨adv, Ai, ci, eadv, hxa, hla, hCa⟩ := at_L2 (Kd.F_now hF0) z (by omega) (by omega)
        have er : rd_L2 bl z = yb := by rw [hz, ← hyb]; exact rdl _ hi
        rw [er] at hxa hla hCa
        cases eadv
        have HG8 := Aside0.mk (fun (W : World) (hb : Below wr.heap.size wr W) => (show W.cell? ⟨g3, 0, none⟩ = some (.slice (some adv) bl.length c0) ∧ W.cell? (adv.add z.toNat) = some (.slice Ai yb.length ci) from ⟨(HCS.out W (below_step HBR.out hb)).1, cell_below hb hxa⟩))
        have HCI := Aside0.mk (fun (W : World) (hb : Below wr.heap.size wr W) => Kd.C_below hCa hb)
        have HLI := Aside0.mk hla
        have hKR := blk_below HK3.out HBR.out
        have HKR := Aside0.mk hKR
        clear hybl hz hk hil hi hwr hsn hyb hks hky hF0 hc00 hxa hla hCa er
        have hd0 : wr.cell? ⟨g3, 0, none⟩ = some (.slice (some adv) bl.length c0) := (blk_cell hKR 0).trans rfl
        have hd1 : wr.cell? ⟨g3, 1, none⟩ = some (.slice A1 ws.length c1) := (blk_cell hKR 1).trans rfl
        have hd2 : wr.cell? ⟨g3, 2, none⟩ = some (.slice A2 bad.length c2) := (blk_cell hKR 2).trans rfl
        have hd3 : wr.cell? ⟨g3, 3, none⟩ = some (.bool false) := (blk_cell hKR 3).trans rfl
        have hd4 : wr.cell? ⟨g3, 4, none⟩ = some (.bool cut) := (blk_cell hKR 4).trans rfl
        have hd5 : wr.cell? ⟨g3, 5, none⟩ = some (.int .i64 left) := (blk_cell hKR 5).trans rfl
        clear hKR hc0
        go_wp2_with (first
          | (go_at_call 54; refine (HRD.out _ (Below.refl _ _)).mono ?_; rintro e w5 ⟨A5, c5, rfl, hl, hC, hb⟩; have HL5 := Aside0.mk hl; have HC5 := Aside0.mk hC; have HB5 := Aside0.mk hb; have HK35 := Aside0.mk (blk_below HKR.out hb); clear hl hC hb hd0 hd1 hd2 hd3 hd4 hd5; have hd0 : w5.cell? ⟨g3, 0, none⟩ = some (.slice (some adv) bl.length c0) := (blk_cell HK35.out 0).trans rfl; have hd1 : w5.cell? ⟨g3, 1, none⟩ = some (.slice A1 ws.length c1) := (blk_cell HK35.out 1).trans rfl; have hd2 : w5.cell? ⟨g3, 2, none⟩ = some (.slice A2 bad.length c2) := (blk_cell HK35.out 2).trans rfl; have hd3 : w5.cell? ⟨g3, 3, none⟩ = some (.bool false) := (blk_cell HK35.out 3).trans rfl; have hd4 : w5.cell? ⟨g3, 4, none⟩ = some (.bool cut) := (blk_cell HK35.out 4).trans rfl; have hd5 : w5.cell? ⟨g3, 5, none⟩ = some (.int .i64 left) := (blk_cell HK35.out 5).trans rfl)
          | (go_at_call 87; refine (HRR.out _ HB5.out).mono ?_; rintro e w6 ⟨A6, c6, rfl, hl, hC, hb⟩; have HL6 := Aside0.mk hl; have HC6 := Aside0.mk hC; have HC56 := Aside0.mk (Kd.C_below HC5.out hb); have HB6 := Aside0.mk (below_step HB5.out hb); clear hl hC hb))
        clear hd0 hd1 hd2 hd3 hd4 hd5
        have HB6d := Aside0.mk (show Below wr.heap.size wr w6.drew from below_drew HB6.out)
        have HTR := Aside0.mk HTR0.out
        refine start_ (n := 21) (S := fun w' => w'.cell? ⟨g3, 0, none⟩ = some (.slice (some adv) bl.length c0) ∧ w'.cell? (adv.add z.toNat) = some (.slice Ai yb.length ci)) (ds := []) #[false, false, false, false, false, false, false, false, false, false, false, false, false, false, false, false, false, false, false, false, false] (by kernel_rfl) rfl rfl ⟨(HG8.out w6.drew HB6d.out).1, (HG8.out w6.drew HB6d.out).2⟩ (fun hHeld => ?_); refine with_tabW Dv53_8.tab Dv53_8.bits (fun HT_ HW_ => ?_)
        refine pure_ (i := 0) (N := some 50) (v := ?_) (a' := ?_) #[true, false, false, false, false, false, false, false, false, false, false, false, false, false, false, false, false, false, false, false, false] rfl rfl (any_of HT_.out (by kernel_rfl)) (fun _ _ _ h => h) (Or.inl ⟨by rfl, ?_⟩) ?_ ?_
        rotate_left
        · intro w'
          go_simp
          with_reducible rfl
        rotate_left
        · simp only [Act.put, List.setIfInBounds_toArray, List.set_cons_zero, List.set_cons_succ, i64_w, i32_w]
          rfl
        refine pure_ (i := 1) (N := some 51) (v := ?_) (a' := ?_) #[true, true, false, false, false, false, false, false, false, false, false, false, false, false, false, false, false, false, false, false, false] rfl rfl (any_of HT_.out (by kernel_rfl)) (fun _ _ _ h => h) (Or.inl ⟨by rfl, ?_⟩) ?_ ?_
        rotate_left
        · intro w'
          go_simp
          with_reducible rfl
        rotate_left
        · simp only [Act.put, List.setIfInBounds_toArray, List.set_cons_zero, List.set_cons_succ, i64_w, i32_w]
          rfl
        refine pure_ (i := 2) (N := some 52) (v := ?_) (a' := ?_) #[true, true, true, false, false, false, false, false, false, false, false, false, false, false, false, false, false, false, false, false, false] rfl rfl (any_of HT_.out (by kernel_rfl)) (fun _ _ _ h => h) (Or.inl ⟨by rfl, ?_⟩) ?_ ?_
        rotate_left
        · intro w'
          go_simp
          with_reducible rfl
        rotate_left
        · simp only [Act.put, List.setIfInBounds_toArray, List.set_cons_zero, List.set_cons_succ, i64_w, i32_w]
          rfl
        refine pure_ (i := 3) (N := some 53) (v := ?_) (a' := ?_) #[true, true, true, true, false, false, false, false, false, false, false, false, false, false, false, false, false, false, false, false, false] rfl rfl (any_of HT_.out (by kernel_rfl)) (fun _ _ _ h => h) (Or.inl ⟨by rfl, ?_⟩) ?_ ?_
        rotate_left
        · intro w'
          go_simp
          with_reducible rfl
        rotate_left
        · simp only [Act.put, List.setIfInBounds_toArray, List.set_cons_zero, List.set_cons_succ, i64_w, i32_w]
          rfl
        refine pure_ (i := 4) (N := some 54) (v := ?_) (a' := ?_) #[true, true, true, true, true, false, false, false, false, false, false, false, false, false, false, false, false, false, false, false, false] rfl rfl (any_of HT_.out (by kernel_rfl)) (fun _ _ _ h => h) (Or.inl ⟨by rfl, ?_⟩) ?_ ?_
        rotate_left
        · intro w'
          go_simp
          with_reducible rfl
        rotate_left
        · simp only [Act.put, List.setIfInBounds_toArray, List.set_cons_zero, List.set_cons_succ, i64_w, i32_w]
          rfl
        refine pure_ (i := 5) (N := some 55) (v := ?_) (a' := ?_) #[true, true, true, true, true, true, false, false, false, false, false, false, false, false, false, false, false, false, false, false, false] rfl rfl (any_of HT_.out (by kernel_rfl)) (fun _ _ _ h => h) (Or.inl ⟨by rfl, ?_⟩) ?_ ?_
        rotate_left
        · intro w'
          go_simp
          with_reducible rfl
        rotate_left
        · simp only [Act.put, List.setIfInBounds_toArray, List.set_cons_zero, List.set_cons_succ, i64_w, i32_w]
          rfl
        refine one_ (i := 6) (N := some 56) #[true, true, true, true, true, true, true, false, false, false, false, false, false, false, false, false, false, false, false, false, false] rfl rfl (one_of HT_.out (by kernel_rfl)) (by decide) (fun Kq hKq => ?_)
        refine goes_ Try.func19 (by kernel_rfl) rfl #[.slice A5 sn.length c5, .slice A6 sn.length c6] (by rfl) rfl rfl (by (try simp only [List.map_toArray, List.map_cons, List.map_nil]); first | done | rfl) ?_
        refine (batonref01_Same.calls ks A5 c5 sn A6 c6 sn true w6.drew (Kd.C_drew HC56.out) HL5.out (Kd.C_drew HC6.out) HL6.out HKS.out).mono ?_
        rintro e w7 ⟨rfl, hd⟩
        have HB7 := Aside0.mk (below_step HB6d.out (below_of_drawn hd))
        clear hd
        refine ⟨_, rfl, ?_⟩
        refine hKq.out _ _ (HG8.out w7 HB7.out) (fun hHeld => ?_)
        clear hKq Kq
        refine norm_ (a' := ?_) ?_ ?_
        rotate_left
        · show Act.put _ (some 56) _ = _
          simp only [Act.put, List.setIfInBounds_toArray, List.set_cons_zero, List.set_cons_succ, i64_w, i32_w]
          rfl
        refine pure_ (i := 7) (N := some 57) (v := ?_) (a' := ?_) #[true, true, true, true, true, true, true, true, false, false, false, false, false, false, false, false, false, false, false, false, false] rfl rfl (any_of HT_.out (by kernel_rfl)) (fun _ _ _ h => h) (Or.inl ⟨by rfl, ?_⟩) ?_ ?_
        rotate_left
        · intro w'
          go_simp
          with_reducible rfl
        rotate_left
        · simp only [Act.put, List.setIfInBounds_toArray, List.set_cons_zero, List.set_cons_succ, i64_w, i32_w]
          rfl
        refine pure_ (i := 8) (N := some 58) (v := ?_) (a' := ?_) #[true, true, true, true, true, true, true, true, true, false, false, false, false, false, false, false, false, false, false, false, false] rfl rfl (any_of HT_.out (by kernel_rfl)) (fun _ _ _ h => h) (Or.inl ⟨by rfl, ?_⟩) ?_ ?_
        rotate_left
        · intro w'
          go_simp
          with_reducible rfl
        rotate_left
        · simp only [Act.put, List.setIfInBounds_toArray, List.set_cons_zero, List.set_cons_succ, i64_w, i32_w]
          rfl
        refine pure_ (i := 9) (N := some 59) (v := ?_) (a' := ?_) #[true, true, true, true, true, true, true, true, true, true, false, false, false, false, false, false, false, false, false, false, false] rfl rfl (any_of HT_.out (by kernel_rfl)) (fun _ _ _ h => h) (Or.inl ⟨by rfl, ?_⟩) ?_ ?_
        rotate_left
        · intro w'
          go_simp
          with_reducible rfl
        rotate_left
        · simp only [Act.put, List.setIfInBounds_toArray, List.set_cons_zero, List.set_cons_succ, i64_w, i32_w]
          rfl
        refine pure_ (i := 10) (N := some 60) (v := ?_) (a' := ?_) #[true, true, true, true, true, true, true, true, true, true, true, false, false, false, false, false, false, false, false, false, false] rfl rfl (any_of HT_.out (by kernel_rfl)) (fun _ _ _ h => h) (Or.inl ⟨by rfl, ?_⟩) ?_ ?_
        rotate_left
        · intro w'
          go_simp
          with_reducible rfl
        rotate_left
        · simp only [Act.put, List.setIfInBounds_toArray, List.set_cons_zero, List.set_cons_succ, i64_w, i32_w]
          rfl
        refine pure_ (i := 11) (N := some 61) (v := ?_) (a' := ?_) #[true, true, true, true, true, true, true, true, true, true, true, true, false, false, false, false, false, false, false, false, false] rfl rfl (any_of HT_.out (by kernel_rfl)) (fun _ _ _ h => h) (Or.inl ⟨by rfl, ?_⟩) ?_ ?_
        rotate_left
        · intro w'
          go_simp
          with_reducible rfl
        rotate_left
        · simp only [Act.put, List.setIfInBounds_toArray, List.set_cons_zero, List.set_cons_succ, i64_w, i32_w]
          rfl
        refine pure_ (i := 13) (N := some 63) (v := ?_) (a' := ?_) #[true, true, true, true, true, true, true, true, true, true, true, true, false, true, false, false, false, false, false, false, false] rfl rfl (any_of HT_.out (by kernel_rfl)) (fun _ _ _ h => h) (Or.inl ⟨by rfl, ?_⟩) ?_ ?_
        rotate_left
        · intro w'
          go_simp
          with_reducible rfl
        rotate_left
        · simp only [Act.put, List.setIfInBounds_toArray, List.set_cons_zero, List.set_cons_succ, i64_w, i32_w]
          rfl
        refine take_ (i := 14) (N := some 64) (v := ?_) (a' := ?_) #[true, true, true, true, true, true, true, true, true, true, true, true, false, true, true, false, false, false, false, false, false] rfl rfl (take_ofW HT_.out HW_.out (by kernel_rfl)) (fun _ _ _ h => h) (Or.inl ⟨by rfl, ?_⟩) hHeld ?_ ?_
        rotate_left
        · rintro w' ⟨s0, s1⟩
          go_simp
          with_reducible rfl
        rotate_left
        · simp only [Act.put, List.setIfInBounds_toArray, List.set_cons_zero, List.set_cons_succ, i64_w, i32_w]
          rfl
        refine pure_ (i := 15) (N := some 65) (v := ?_) (a' := ?_) #[true, true, true, true, true, true, true, true, true, true, true, true, false, true, true, true, false, false, false, false, false] rfl rfl (any_of HT_.out (by kernel_rfl)) (fun _ _ _ h => h) (Or.inl ⟨by rfl, ?_⟩) ?_ ?_
        rotate_left
        · intro w'
          go_simp
          with_reducible rfl
        rotate_left
        · simp only [Act.put, List.setIfInBounds_toArray, List.set_cons_zero, List.set_cons_succ, i64_w, i32_w]
          rfl
        refine pure_ (i := 16) (N := some 66) (v := ?_) (a' := ?_) #[true, true, true, true, true, true, true, true, true, true, true, true, false, true, true, true, true, false, false, false, false] rfl rfl (any_of HT_.out (by kernel_rfl)) (fun _ _ _ h => h) (Or.inl ⟨by rfl, ?_⟩) ?_ ?_
        rotate_left
        · intro w'
          go_simp
          with_reducible rfl
        rotate_left
        · simp only [Act.put, List.setIfInBounds_toArray, List.set_cons_zero, List.set_cons_succ, i64_w, i32_w]
          rfl
        refine take_ (i := 17) (N := some 67) (v := ?_) (a' := ?_) #[true, true, true, true, true, true, true, true, true, true, true, true, false, true, true, true, true, true, false, false, false] rfl rfl (take_ofW HT_.out HW_.out (by kernel_rfl)) (fun _ _ _ h => h) (Or.inl ⟨by rfl, ?_⟩) hHeld ?_ ?_
        rotate_left
        · rintro w' ⟨s0, s1⟩
          go_simp
          with_reducible rfl
        rotate_left
        · simp only [Act.put, List.setIfInBounds_toArray, List.set_cons_zero, List.set_cons_succ, i64_w, i32_w]
          rfl
        refine one_ (i := 12) (N := some 62) #[true, true, true, true, true, true, true, true, true, true, true, true, true, true, true, true, true, true, false, false, false] rfl rfl (one_of HT_.out (by kernel_rfl)) (by decide) (fun Kq hKq => ?_)
        refine goes_ Try.func50 (by kernel_rfl) rfl #[.pointer (some ⟨g, 0, none⟩), .int .i64 z] (by rfl) rfl rfl (by (try simp only [List.map_toArray, List.map_cons, List.map_nil]); first | done | rfl) ?_
        refine (HLS.out w7 HB7.out).mono ?_
        rintro e w8 ⟨v8, rfl, hr, hb⟩
        obtain ⟨A8, c8, e8, hl8, hC8⟩ := Kd.R_reads hr
        subst e8
        have HC8 := Aside0.mk hC8
        have HL8 := Aside0.mk hl8
        have HB8 := Aside0.mk (below_step HB7.out hb)
        clear hr hb hl8 hC8
        refine ⟨_, rfl, ?_⟩
        refine hKq.out _ _ (HG8.out w8 HB8.out) (fun hHeld => ?_)
        clear hKq Kq
        refine norm_ (a' := ?_) ?_ ?_
        rotate_left
        · show Act.put _ (some 62) _ = _
          simp only [Act.put, List.setIfInBounds_toArray, List.set_cons_zero, List.set_cons_succ, i64_w, i32_w]
          rfl
        refine one_ (i := 18) (N := some 68) #[true, true, true, true, true, true, true, true, true, true, true, true, true, true, true, true, true, true, true, false, false] rfl rfl (one_of HT_.out (by kernel_rfl)) (by decide) (fun Kq hKq => ?_)
        refine goes_ Try.func19 (by kernel_rfl) rfl #[.slice A8 yb.length c8, .slice Ai yb.length ci] (by rfl) rfl rfl (by (try simp only [List.map_toArray, List.map_cons, List.map_nil]); first | done | rfl) ?_
        refine (batonref01_Same.calls ky A8 c8 yb Ai ci yb true w8 HC8.out HL8.out (HCI.out w8 HB8.out) HLI.out HKY.out).mono ?_
        rintro e w9 ⟨rfl, hd⟩
        have HB9 := Aside0.mk (below_step HB8.out (below_of_drawn hd))
        clear hd
        refine ⟨_, rfl, ?_⟩
        refine hKq.out _ _ (HG8.out w9 HB9.out) (fun hHeld => ?_)
        clear hKq Kq
        refine norm_ (a' := ?_) ?_ ?_
        rotate_left
        · show Act.put _ (some 68) _ = _
          simp only [Act.put, List.setIfInBounds_toArray, List.set_cons_zero, List.set_cons_succ, i64_w, i32_w]
          rfl
        refine pure_ (i := 19) (N := some 69) (v := ?_) (a' := ?_) #[true, true, true, true, true, true, true, true, true, true, true, true, true, true, true, true, true, true, true, true, false] rfl rfl (any_of HT_.out (by kernel_rfl)) (fun _ _ _ h => h) (Or.inl ⟨by rfl, ?_⟩) ?_ ?_
        rotate_left
        · intro w'
          go_simp
          with_reducible rfl
        rotate_left
        · simp only [Act.put, List.setIfInBounds_toArray, List.set_cons_zero, List.set_cons_succ, i64_w, i32_w]
          rfl
        refine pure_ (i := 20) (N := some 70) (v := ?_) (a' := ?_) #[true, true, true, true, true, true, true, true, true, true, true, true, true, true, true, true, true, true, true, true, true] rfl rfl (any_of HT_.out (by kernel_rfl)) (fun _ _ _ h => h) (Or.inl ⟨by rfl, ?_⟩) ?_ ?_
        rotate_left
        · intro w'
          go_simp
          with_reducible rfl
        rotate_left
        · simp only [Act.put, List.setIfInBounds_toArray, List.set_cons_zero, List.set_cons_succ, i64_w, i32_w]
          rfl
        refine done_ (done_of HT_.out (by kernel_rfl)) ?_
        go_wp2
        go_roundg k1
        case measure => have := HK.out.2.1; omega
        case rel => exact ⟨wrap64 (z + 1), ix + 1, rfl, ⟨HWR.out, by have := HK.out.2.1; omega, by have := HIX.out; omega⟩, ⟨below_step HBR.out HB9.out⟩⟩
      · have hib : decide (z < (bl.length : Int)) = false := decide_eq_false (by omega)
        clear hz hk hil hi
        go_wp2
        go_ret
        exact ⟨rfl, below_step HB1.out HBR.out⟩
set_option maxHeartbeats 8000000 in
set_option maxRecDepth 100000 in
theorem Shows_down {Q : Nat → Prop} {B M0 g nb i : Nat} {bv dv wv v0 v1 v2 : Value} {bl : List (List Int)} {ws : List S183} {bad : List Int} {down cut : Bool} {left : Int} {w : World} (t : Two B M0 g bv dv wv bl (ws.map toW) bad down (dl cut left) Q v0 v1 v2 bl ws w) (fi : Fit nb i bl ws bad left) (hi : i ≤ 100) (hnb : nb ≤ 300) (hd : down = true) : Calls Try.prog 53 #[.pointer (some ⟨g, 0, none⟩), .agg (stC v0 v1 v2 down cut left)] w fun e w' => e = .returned (.bool true) ∧ Below w.heap.size w w' := by
  subst hd
  obtain ⟨A0, c0, rfl⟩ := Kd.V_slice t.rf.b
  obtain ⟨A1, c1, rfl⟩ := Kd.V_slice t.rf.q
  obtain ⟨A2, c2, rfl⟩ := Kd.V_slice t.rf.d
  have HT := Aside0.mk t
  have HFI := Aside0.mk fi
  have HI100 := Aside0.mk hi
  have HNB := Aside0.mk hnb
  have hne1 : ((bl.length : Int) != (bl.length : Int)) = false := by simp
  have hne2 : ((ws.length : Int) != (ws.length : Int)) = false := by simp
  clear t fi hi hnb
  go_enter Try.func53, Try.ntmps53
  go_wp2_with (first
    | ((with_reducible refine gate_dst (N := 3) rfl ?_); refine L_box rfl 102 (.tmp 1) rfl (.agg #[.slice A0 bl.length c0, .slice A1 ws.length c1, .slice A2 bad.length c2, .bool true, .bool cut, .int .i64 left]) rfl ?_; intro g3 w1 hb hg hs hl; have HK3 := Aside0.mk hb; have HB1 := Aside0.mk hl; clear hb hg hs hl))
  have HT1 := Aside0.mk (HT.out.later HB1.out)
  have HBw1d := Aside0.mk (show Below w1.heap.size w1 w1.drew from below_drew (Below.refl _ _))
  have HCS := Aside0.mk (fun (W : World) (hb : Below w1.heap.size w1 W) => (show W.cell? ⟨g3, 0, none⟩ = some (.slice A0 bl.length c0) ∧ W.cell? ⟨g3, 1, none⟩ = some (.slice A1 ws.length c1) ∧ W.cell? ⟨g3, 3, none⟩ = some (.bool true) from ⟨(blk_cell (blk_below HK3.out hb) 0).trans rfl, (blk_cell (blk_below HK3.out hb) 1).trans rfl, (blk_cell (blk_below HK3.out hb) 3).trans rfl⟩))
  refine start_ (n := 21) (S := fun w' => w'.cell? ⟨g3, 0, none⟩ = some (.slice A0 bl.length c0) ∧ w'.cell? ⟨g3, 1, none⟩ = some (.slice A1 ws.length c1) ∧ w'.cell? ⟨g3, 3, none⟩ = some (.bool true)) (ds := []) #[false, false, false, false, false, false, false, false, false, false, false, false, false, false, false, false, false, false, false, false, false] (by kernel_rfl) rfl rfl ⟨(HCS.out w1.drew HBw1d.out).1, (HCS.out w1.drew HBw1d.out).2.1, (HCS.out w1.drew HBw1d.out).2.2⟩ (fun hHeld => ?_); refine with_tabW Dv53_1.tab Dv53_1.bits (fun HT_ HW_ => ?_)
  refine pure_ (i := 0) (N := some 10) (v := ?_) (a' := ?_) #[true, false, false, false, false, false, false, false, false, false, false, false, false, false, false, false, false, false, false, false, false] rfl rfl (any_of HT_.out (by kernel_rfl)) (fun _ _ _ h => h) (Or.inl ⟨by rfl, ?_⟩) ?_ ?_
  rotate_left
  · intro w'
    go_simp
    with_reducible rfl
  rotate_left
  · simp only [Act.put, List.setIfInBounds_toArray, List.set_cons_zero, List.set_cons_succ, i64_w, i32_w]
    rfl
  refine pure_ (i := 2) (N := some 12) (v := ?_) (a' := ?_) #[true, false, true, false, false, false, false, false, false, false, false, false, false, false, false, false, false, false, false, false, false] rfl rfl (any_of HT_.out (by kernel_rfl)) (fun _ _ _ h => h) (Or.inl ⟨by rfl, ?_⟩) ?_ ?_
  rotate_left
  · intro w'
    go_simp
    with_reducible rfl
  rotate_left
  · simp only [Act.put, List.setIfInBounds_toArray, List.set_cons_zero, List.set_cons_succ, i64_w, i32_w]
    rfl
  refine take_ (i := 3) (N := some 13) (v := ?_) (a' := ?_) #[true, false, true, true, false, false, false, false, false, false, false, false, false, false, false, false, false, false, false, false, false] rfl rfl (take_ofW HT_.out HW_.out (by kernel_rfl)) (fun _ _ _ h => h) (Or.inl ⟨by rfl, ?_⟩) hHeld ?_ ?_
  rotate_left
  · rintro w' ⟨s0, s1, s2⟩
    go_simp
    with_reducible rfl
  rotate_left
  · simp only [Act.put, List.setIfInBounds_toArray, List.set_cons_zero, List.set_cons_succ, i64_w, i32_w]
    rfl
  refine pure_ (i := 4) (N := some 14) (v := ?_) (a' := ?_) #[true, false, true, true, true, false, false, false, false, false, false, false, false, false, false, false, false, false, false, false, false] rfl rfl (any_of HT_.out (by kernel_rfl)) (fun _ _ _ h => h) (Or.inl ⟨by rfl, ?_⟩) ?_ ?_
  rotate_left
  · intro w'
    go_simp
    with_reducible rfl
  rotate_left
  · simp only [Act.put, List.setIfInBounds_toArray, List.set_cons_zero, List.set_cons_succ, i64_w, i32_w]
    rfl
  refine one_ (i := 1) (N := some 11) #[true, true, true, true, true, false, false, false, false, false, false, false, false, false, false, false, false, false, false, false, false] rfl rfl (one_of HT_.out (by kernel_rfl)) (by decide) (fun Kq hKq => ?_)
  refine goes_ Try.func84 (by kernel_rfl) rfl #[.pointer (some ⟨g, 0, none⟩)] (by rfl) rfl rfl (by (try simp only [List.map_toArray, List.map_cons, List.map_nil]); first | done | rfl) ?_
  refine ((HT1.out.later HBw1d.out).st.Blocks).mono ?_
  rintro e w2 ⟨rfl, hb⟩
  try rw [List.length_map]
  have HBw2 := Aside0.mk (below_step HBw1d.out hb)
  clear hb
  refine ⟨_, rfl, ?_⟩
  refine hKq.out _ _ (HCS.out w2 HBw2.out) (fun hHeld => ?_)
  clear hKq Kq
  refine norm_ (a' := ?_) ?_ ?_
  rotate_left
  · show Act.put _ (some 11) _ = _
    simp only [Act.put, List.setIfInBounds_toArray, List.set_cons_zero, List.set_cons_succ, i64_w, i32_w]
    rfl
  refine pure_ (i := 5) (N := some 15) (v := ?_) (a' := ?_) #[true, true, true, true, true, true, false, false, false, false, false, false, false, false, false, false, false, false, false, false, false] rfl rfl (any_of HT_.out (by kernel_rfl)) (fun _ _ _ h => h) (Or.inl ⟨by rfl, ?_⟩) ?_ ?_
  rotate_left
  · intro w'
    go_simp
    with_reducible rfl
  rotate_left
  · simp only [Act.put, List.setIfInBounds_toArray, List.set_cons_zero, List.set_cons_succ, i64_w, i32_w]
    rfl
  refine pure_ (i := 6) (N := some 16) (v := ?_) (a' := ?_) #[true, true, true, true, true, true, true, false, false, false, false, false, false, false, false, false, false, false, false, false, false] rfl rfl (any_of HT_.out (by kernel_rfl)) (fun _ _ _ h => h) (Or.inl ⟨by rfl, ?_⟩) ?_ ?_
  rotate_left
  · intro w'
    go_simp
    with_reducible rfl
  rotate_left
  · simp only [Act.put, List.setIfInBounds_toArray, List.set_cons_zero, List.set_cons_succ, i64_w, i32_w]
    rfl
  refine pure_ (i := 7) (N := some 17) (v := ?_) (a' := ?_) #[true, true, true, true, true, true, true, true, false, false, false, false, false, false, false, false, false, false, false, false, false] rfl rfl (any_of HT_.out (by kernel_rfl)) (fun _ _ _ h => h) (Or.inl ⟨by rfl, ?_⟩) ?_ ?_
  rotate_left
  · intro w'
    go_simp
    with_reducible rfl
  rotate_left
  · simp only [Act.put, List.setIfInBounds_toArray, List.set_cons_zero, List.set_cons_succ, i64_w, i32_w]
    rfl
  refine pure_ (i := 9) (N := some 19) (v := ?_) (a' := ?_) #[true, true, true, true, true, true, true, true, false, true, false, false, false, false, false, false, false, false, false, false, false] rfl rfl (any_of HT_.out (by kernel_rfl)) (fun _ _ _ h => h) (Or.inl ⟨by rfl, ?_⟩) ?_ ?_
  rotate_left
  · intro w'
    go_simp
    with_reducible rfl
  rotate_left
  · simp only [Act.put, List.setIfInBounds_toArray, List.set_cons_zero, List.set_cons_succ, i64_w, i32_w]
    rfl
  refine take_ (i := 10) (N := some 20) (v := ?_) (a' := ?_) #[true, true, true, true, true, true, true, true, false, true, true, false, false, false, false, false, false, false, false, false, false] rfl rfl (take_ofW HT_.out HW_.out (by kernel_rfl)) (fun _ _ _ h => h) (Or.inl ⟨by rfl, ?_⟩) hHeld ?_ ?_
  rotate_left
  · rintro w' ⟨s0, s1, s2⟩
    go_simp
    with_reducible rfl
  rotate_left
  · simp only [Act.put, List.setIfInBounds_toArray, List.set_cons_zero, List.set_cons_succ, i64_w, i32_w]
    rfl
  refine one_ (i := 8) (N := some 18) #[true, true, true, true, true, true, true, true, true, true, true, false, false, false, false, false, false, false, false, false, false] rfl rfl (one_of HT_.out (by kernel_rfl)) (by decide) (fun Kq hKq => ?_)
  refine goes_ Try.func85 (by kernel_rfl) rfl #[.pointer (some ⟨g, 0, none⟩)] (by rfl) rfl rfl (by (try simp only [List.map_toArray, List.map_cons, List.map_nil]); first | done | rfl) ?_
  refine ((HT1.out.later HBw2.out).st.Up).mono ?_
  rintro e w3 ⟨rfl, hb⟩
  try rw [List.length_map]
  have HBw3 := Aside0.mk (below_step HBw2.out hb)
  clear hb
  refine ⟨_, rfl, ?_⟩
  refine hKq.out _ _ (HCS.out w3 HBw3.out) (fun hHeld => ?_)
  clear hKq Kq
  refine norm_ (a' := ?_) ?_ ?_
  rotate_left
  · show Act.put _ (some 18) _ = _
    simp only [Act.put, List.setIfInBounds_toArray, List.set_cons_zero, List.set_cons_succ, i64_w, i32_w]
    rfl
  refine pure_ (i := 11) (N := some 21) (v := ?_) (a' := ?_) #[true, true, true, true, true, true, true, true, true, true, true, true, false, false, false, false, false, false, false, false, false] rfl rfl (any_of HT_.out (by kernel_rfl)) (fun _ _ _ h => h) (Or.inl ⟨by rfl, ?_⟩) ?_ ?_
  rotate_left
  · intro w'
    go_simp
    with_reducible rfl
  rotate_left
  · simp only [Act.put, List.setIfInBounds_toArray, List.set_cons_zero, List.set_cons_succ, i64_w, i32_w]
    rfl
  refine pure_ (i := 12) (N := some 22) (v := ?_) (a' := ?_) #[true, true, true, true, true, true, true, true, true, true, true, true, true, false, false, false, false, false, false, false, false] rfl rfl (any_of HT_.out (by kernel_rfl)) (fun _ _ _ h => h) (Or.inl ⟨by rfl, ?_⟩) ?_ ?_
  rotate_left
  · intro w'
    go_simp
    with_reducible rfl
  rotate_left
  · simp only [Act.put, List.setIfInBounds_toArray, List.set_cons_zero, List.set_cons_succ, i64_w, i32_w]
    rfl
  refine pure_ (i := 13) (N := some 23) (v := ?_) (a' := ?_) #[true, true, true, true, true, true, true, true, true, true, true, true, true, true, false, false, false, false, false, false, false] rfl rfl (any_of HT_.out (by kernel_rfl)) (fun _ _ _ h => h) (Or.inl ⟨by rfl, ?_⟩) ?_ ?_
  rotate_left
  · intro w'
    go_simp
    with_reducible rfl
  rotate_left
  · simp only [Act.put, List.setIfInBounds_toArray, List.set_cons_zero, List.set_cons_succ, i64_w, i32_w]
    rfl
  refine pure_ (i := 14) (N := some 24) (v := ?_) (a' := ?_) #[true, true, true, true, true, true, true, true, true, true, true, true, true, true, true, false, false, false, false, false, false] rfl rfl (any_of HT_.out (by kernel_rfl)) (fun _ _ _ h => h) (Or.inl ⟨by rfl, ?_⟩) ?_ ?_
  rotate_left
  · intro w'
    go_simp
    with_reducible rfl
  rotate_left
  · simp only [Act.put, List.setIfInBounds_toArray, List.set_cons_zero, List.set_cons_succ, i64_w, i32_w]
    rfl
  refine pure_ (i := 16) (N := some 26) (v := ?_) (a' := ?_) #[true, true, true, true, true, true, true, true, true, true, true, true, true, true, true, false, true, false, false, false, false] rfl rfl (any_of HT_.out (by kernel_rfl)) (fun _ _ _ h => h) (Or.inl ⟨by rfl, ?_⟩) ?_ ?_
  rotate_left
  · intro w'
    go_simp
    with_reducible rfl
  rotate_left
  · simp only [Act.put, List.setIfInBounds_toArray, List.set_cons_zero, List.set_cons_succ, i64_w, i32_w]
    rfl
  refine take_ (i := 17) (N := some 27) (v := ?_) (a' := ?_) #[true, true, true, true, true, true, true, true, true, true, true, true, true, true, true, false, true, true, false, false, false] rfl rfl (take_ofW HT_.out HW_.out (by kernel_rfl)) (fun _ _ _ h => h) (Or.inl ⟨by rfl, ?_⟩) hHeld ?_ ?_
  rotate_left
  · rintro w' ⟨s0, s1, s2⟩
    go_simp
    with_reducible rfl
  rotate_left
  · simp only [Act.put, List.setIfInBounds_toArray, List.set_cons_zero, List.set_cons_succ, i64_w, i32_w]
    rfl
  refine pure_ (i := 18) (N := some 28) (v := ?_) (a' := ?_) #[true, true, true, true, true, true, true, true, true, true, true, true, true, true, true, false, true, true, true, false, false] rfl rfl (any_of HT_.out (by kernel_rfl)) (fun _ _ _ h => h) (Or.inl ⟨by rfl, ?_⟩) ?_ ?_
  rotate_left
  · intro w'
    go_simp
    with_reducible rfl
  rotate_left
  · simp only [Act.put, List.setIfInBounds_toArray, List.set_cons_zero, List.set_cons_succ, i64_w, i32_w]
    rfl
  refine one_ (i := 15) (N := some 25) #[true, true, true, true, true, true, true, true, true, true, true, true, true, true, true, true, true, true, true, false, false] rfl rfl (one_of HT_.out (by kernel_rfl)) (by decide) (fun Kq hKq => ?_)
  refine goes_ Try.func86 (by kernel_rfl) rfl #[.pointer (some ⟨g, 0, none⟩)] (by rfl) rfl rfl (by (try simp only [List.map_toArray, List.map_cons, List.map_nil]); first | done | rfl) ?_
  refine ((HT1.out.later HBw3.out).st.Waits).mono ?_
  rintro e w4 ⟨rfl, hb⟩
  try rw [List.length_map]
  have HBw4 := Aside0.mk (below_step HBw3.out hb)
  clear hb
  refine ⟨_, rfl, ?_⟩
  refine hKq.out _ _ (HCS.out w4 HBw4.out) (fun hHeld => ?_)
  clear hKq Kq
  refine norm_ (a' := ?_) ?_ ?_
  rotate_left
  · show Act.put _ (some 25) _ = _
    simp only [Act.put, List.setIfInBounds_toArray, List.set_cons_zero, List.set_cons_succ, i64_w, i32_w]
    rfl
  refine pure_ (i := 19) (N := some 29) (v := ?_) (a' := ?_) #[true, true, true, true, true, true, true, true, true, true, true, true, true, true, true, true, true, true, true, true, false] rfl rfl (any_of HT_.out (by kernel_rfl)) (fun _ _ _ h => h) (Or.inl ⟨by rfl, ?_⟩) ?_ ?_
  rotate_left
  · intro w'
    go_simp
    with_reducible rfl
  rotate_left
  · simp only [Act.put, List.setIfInBounds_toArray, List.set_cons_zero, List.set_cons_succ, i64_w, i32_w]
    rfl
  refine pure_ (i := 20) (N := some 30) (v := ?_) (a' := ?_) #[true, true, true, true, true, true, true, true, true, true, true, true, true, true, true, true, true, true, true, true, true] rfl rfl (any_of HT_.out (by kernel_rfl)) (fun _ _ _ h => h) (Or.inl ⟨by rfl, ?_⟩) ?_ ?_
  rotate_left
  · intro w'
    go_simp
    with_reducible rfl
  rotate_left
  · simp only [Act.put, List.setIfInBounds_toArray, List.set_cons_zero, List.set_cons_succ, i64_w, i32_w]
    rfl
  refine done_ (done_of HT_.out (by kernel_rfl)) ?_
  go_wp2
  clear hne1 hne2
  go_loopg [5] (bl.length + 1) (fun kq v5 wr => ∃ (z : Int) (ix : Nat), v5 = .int .i64 z ∧ Aside0 (z = (ix : Int) ∧ ix + kq = bl.length + 1 ∧ ix ≤ bl.length) ∧ Aside0 (Below w1.heap.size w1 wr))
  case atStart => exact ⟨0, 0, rfl, ⟨rfl, by omega, by omega⟩, HBw4⟩
  case round =>
    obtain ⟨z, ix, rfl, HK, HBR⟩ := hrel
    obtain ⟨hz, hk, hil⟩ := HK.out
    have hc0 := (HCS.out wr HBR.out).1
    clear HBw4
    cases gk with
    | zero => omega
    | succ k1 =>
      by_cases hi : ix < bl.length
      · have hib : decide (z < (bl.length : Int)) = true := decide_eq_true (by omega)
        have HTR0 := Aside0.mk (HT1.out.later HBR.out)
        have hwr : wrap64 (z + 1) = ((ix + 1 : Nat) : Int) := by have := HFI.out.len; have := HNB.out; rw [w64 (by omega) (by omega)]; omega
        have HWR := Aside0.mk hwr
        have HZ := Aside0.mk hz
        have HIX := Aside0.mk hi
        obtain ⟨sn, hsn⟩ : ∃ sn, seen true ws bl ix = sn := ⟨_, rfl⟩
        obtain ⟨yb, hyb⟩ : ∃ yb, bl[ix] = yb := ⟨_, rfl⟩
        have hybl : yb.length = 256 := by rw [← hyb]; exact HFI.out.wf.1 _ (List.getElem_mem hi)
        have HLS := Aside0.mk (fun (W : World) (hb : Below wr.heap.size wr W) => (by have h := (HTR0.out.later hb).st.Lies z ix hz hi (by rw [hyb, hybl]; decide); rw [hyb] at h; exact h : Calls Try.prog 50 #[.pointer (some ⟨g, 0, none⟩), .int .i64 z] W (fun e w' => ∃ v0 : Value, e = .returned v0 ∧ Kd.R (Kd.int .u8) 5 w' W.heap.size (fun _ => True) v0 yb ∧ Below W.heap.size W w')))
        obtain ⟨ks, hks⟩ := Same_yes sn (by have := seen_len true ix HFI.out.wf; rw [hsn] at this; omega)
        obtain ⟨ky, hky⟩ := Same_yes yb (by rw [hybl]; decide)
        have HKS := Aside0.mk hks
        have HKY := Aside0.mk hky
        have HRD := Aside0.mk (fun (W : World) (hb : Below wr.heap.size wr W) => (by have h := (HTR0.out.later hb).st.Read_any HFI.out.wf (by have := HFI.out.short; have := HI100.out; omega) z ix hz hi; rw [hsn] at h; exact h : Calls Try.prog 54 #[.pointer (some ⟨g, 0, none⟩), .int .i64 z] W (fun e w' => ∃ A c, e = .returned (.tuple #[.slice A sn.length c, .int .i64 (seenC true)]) ∧ sn.length ≤ c ∧ Kd.C (Kd.int .u8) w' A sn.length sn ∧ Below W.heap.size W w')))
        have HRR := Aside0.mk (fun (W : World) (hb : Below wr.heap.size wr W) => (by have h := (HTR0.out.later hb).rf.Read_any (down := true) (cut := cut) (left := left) (by have := HFI.out.short; have := HI100.out; omega) z ix hz hi; rw [hsn] at h; exact h : Calls Try.prog 87 #[.agg (stC (.slice A0 bl.length c0) (.slice A1 ws.length c1) (.slice A2 bad.length c2) true cut left), .int .i64 z] W (fun e w' => ∃ A c, e = .returned (.tuple #[.slice A sn.length c, .int .i64 (seenC true)]) ∧ sn.length ≤ c ∧ Kd.C (Kd.int .u8) w' A sn.length sn ∧ Below W.heap.size W w')))
        have hsc : (seenC true != seenC true) = false := by simp
        have p1 := eq_true (show (0 : Int) ≤ z by omega)
        have q1 := eq_true (show z < (bl.length : Int) by omega)
        obtain ⟨_, hc00, hF0⟩ := Kd.V_at HTR0.out.rf.b
        obtain ⟨adv, Ai, ci, eadv, hxa, hla, hCa⟩ := at_L2 (Kd.F_now hF0) z (by omega) (by omega)
        have er : rd_L2 bl z = yb := by rw [hz, ← hyb]; exact rdl _ hi
        rw [er] at hxa hla hCa
        cases eadv
        have HG8 := Aside0.mk (fun (W : World) (hb : Below wr.heap.size wr W) => (show W.cell? ⟨g3, 0, none⟩ = some (.slice (some adv) bl.length c0) ∧ W.cell? (adv.add z.toNat) = some (.slice Ai yb.length ci) from ⟨(HCS.out W (below_step HBR.out hb)).1, cell_below hb hxa⟩))
        have HCI := Aside0.mk (fun (W : World) (hb : Below wr.heap.size wr W) => Kd.C_below hCa hb)
        have HLI := Aside0.mk hla
        have hKR := blk_below HK3.out HBR.out
        have HKR := Aside0.mk hKR
        clear hybl hz hk hil hi hwr hsn hyb hks hky hF0 hc00 hxa hla hCa er
        have hd0 : wr.cell? ⟨g3, 0, none⟩ = some (.slice (some adv) bl.length c0) := (blk_cell hKR 0).trans rfl
        have hd1 : wr.cell? ⟨g3, 1, none⟩ = some (.slice A1 ws.length c1) := (blk_cell hKR 1).trans rfl
        have hd2 : wr.cell? ⟨g3, 2, none⟩ = some (.slice A2 bad.length c2) := (blk_cell hKR 2).trans rfl
        have hd3 : wr.cell? ⟨g3, 3, none⟩ = some (.bool true) := (blk_cell hKR 3).trans rfl
        have hd4 : wr.cell? ⟨g3, 4, none⟩ = some (.bool cut) := (blk_cell hKR 4).trans rfl
        have hd5 : wr.cell? ⟨g3, 5, none⟩ = some (.int .i64 left) := (blk_cell hKR 5).trans rfl
        clear hKR hc0
        go_wp2_with (first
          | (go_at_call 54; refine (HRD.out _ (Below.refl _ _)).mono ?_; rintro e w5 ⟨A5, c5, rfl, hl, hC, hb⟩; have HL5 := Aside0.mk hl; have HC5 := Aside0.mk hC; have HB5 := Aside0.mk hb; have HK35 := Aside0.mk (blk_below HKR.out hb); clear hl hC hb hd0 hd1 hd2 hd3 hd4 hd5; have hd0 : w5.cell? ⟨g3, 0, none⟩ = some (.slice (some adv) bl.length c0) := (blk_cell HK35.out 0).trans rfl; have hd1 : w5.cell? ⟨g3, 1, none⟩ = some (.slice A1 ws.length c1) := (blk_cell HK35.out 1).trans rfl; have hd2 : w5.cell? ⟨g3, 2, none⟩ = some (.slice A2 bad.length c2) := (blk_cell HK35.out 2).trans rfl; have hd3 : w5.cell? ⟨g3, 3, none⟩ = some (.bool true) := (blk_cell HK35.out 3).trans rfl; have hd4 : w5.cell? ⟨g3, 4, none⟩ = some (.bool cut) := (blk_cell HK35.out 4).trans rfl; have hd5 : w5.cell? ⟨g3, 5, none⟩ = some (.int .i64 left) := (blk_cell HK35.out 5).trans rfl)
          | (go_at_call 87; refine (HRR.out _ HB5.out).mono ?_; rintro e w6 ⟨A6, c6, rfl, hl, hC, hb⟩; have HL6 := Aside0.mk hl; have HC6 := Aside0.mk hC; have HC56 := Aside0.mk (Kd.C_below HC5.out hb); have HB6 := Aside0.mk (below_step HB5.out hb); clear hl hC hb))
        clear hd0 hd1 hd2 hd3 hd4 hd5
        have HB6d := Aside0.mk (show Below wr.heap.size wr w6.drew from below_drew HB6.out)
        have HTR := Aside0.mk HTR0.out
        refine start_ (n := 21) (S := fun w' => w'.cell? ⟨g3, 0, none⟩ = some (.slice (some adv) bl.length c0) ∧ w'.cell? (adv.add z.toNat) = some (.slice Ai yb.length ci)) (ds := []) #[false, false, false, false, false, false, false, false, false, false, false, false, false, false, false, false, false, false, false, false, false] (by kernel_rfl) rfl rfl ⟨(HG8.out w6.drew HB6d.out).1, (HG8.out w6.drew HB6d.out).2⟩ (fun hHeld => ?_); refine with_tabW Dv53_8.tab Dv53_8.bits (fun HT_ HW_ => ?_)
        refine pure_ (i := 0) (N := some 50) (v := ?_) (a' := ?_) #[true, false, false, false, false, false, false, false, false, false, false, false, false, false, false, false, false, false, false, false, false] rfl rfl (any_of HT_.out (by kernel_rfl)) (fun _ _ _ h => h) (Or.inl ⟨by rfl, ?_⟩) ?_ ?_
        rotate_left
        · intro w'
          go_simp
          with_reducible rfl
        rotate_left
        · simp only [Act.put, List.setIfInBounds_toArray, List.set_cons_zero, List.set_cons_succ, i64_w, i32_w]
          rfl
        refine pure_ (i := 1) (N := some 51) (v := ?_) (a' := ?_) #[true, true, false, false, false, false, false, false, false, false, false, false, false, false, false, false, false, false, false, false, false] rfl rfl (any_of HT_.out (by kernel_rfl)) (fun _ _ _ h => h) (Or.inl ⟨by rfl, ?_⟩) ?_ ?_
        rotate_left
        · intro w'
          go_simp
          with_reducible rfl
        rotate_left
        · simp only [Act.put, List.setIfInBounds_toArray, List.set_cons_zero, List.set_cons_succ, i64_w, i32_w]
          rfl
        refine pure_ (i := 2) (N := some 52) (v := ?_) (a' := ?_) #[true, true, true, false, false, false, false, false, false, false, false, false, false, false, false, false, false, false, false, false, false] rfl rfl (any_of HT_.out (by kernel_rfl)) (fun _ _ _ h => h) (Or.inl ⟨by rfl, ?_⟩) ?_ ?_
        rotate_left
        · intro w'
          go_simp
          with_reducible rfl
        rotate_left
        · simp only [Act.put, List.setIfInBounds_toArray, List.set_cons_zero, List.set_cons_succ, i64_w, i32_w]
          rfl
        refine pure_ (i := 3) (N := some 53) (v := ?_) (a' := ?_) #[true, true, true, true, false, false, false, false, false, false, false, false, false, false, false, false, false, false, false, false, false] rfl rfl (any_of HT_.out (by kernel_rfl)) (fun _ _ _ h => h) (Or.inl ⟨by rfl, ?_⟩) ?_ ?_
        rotate_left
        · intro w'
          go_simp
          with_reducible rfl
        rotate_left
        · simp only [Act.put, List.setIfInBounds_toArray, List.set_cons_zero, List.set_cons_succ, i64_w, i32_w]
          rfl
        refine pure_ (i := 4) (N := some 54) (v := ?_) (a' := ?_) #[true, true, true, true, true, false, false, false, false, false, false, false, false, false, false, false, false, false, false, false, false] rfl rfl (any_of HT_.out (by kernel_rfl)) (fun _ _ _ h => h) (Or.inl ⟨by rfl, ?_⟩) ?_ ?_
        rotate_left
        · intro w'
          go_simp
          with_reducible rfl
        rotate_left
        · simp only [Act.put, List.setIfInBounds_toArray, List.set_cons_zero, List.set_cons_succ, i64_w, i32_w]
          rfl
        refine pure_ (i := 5) (N := some 55) (v := ?_) (a' := ?_) #[true, true, true, true, true, true, false, false, false, false, false, false, false, false, false, false, false, false, false, false, false] rfl rfl (any_of HT_.out (by kernel_rfl)) (fun _ _ _ h => h) (Or.inl ⟨by rfl, ?_⟩) ?_ ?_
        rotate_left
        · intro w'
          go_simp
          with_reducible rfl
        rotate_left
        · simp only [Act.put, List.setIfInBounds_toArray, List.set_cons_zero, List.set_cons_succ, i64_w, i32_w]
          rfl
        refine one_ (i := 6) (N := some 56) #[true, true, true, true, true, true, true, false, false, false, false, false, false, false, false, false, false, false, false, false, false] rfl rfl (one_of HT_.out (by kernel_rfl)) (by decide) (fun Kq hKq => ?_)
        refine goes_ Try.func19 (by kernel_rfl) rfl #[.slice A5 sn.length c5, .slice A6 sn.length c6] (by rfl) rfl rfl (by (try simp only [List.map_toArray, List.map_cons, List.map_nil]); first | done | rfl) ?_
        refine (batonref01_Same.calls ks A5 c5 sn A6 c6 sn true w6.drew (Kd.C_drew HC56.out) HL5.out (Kd.C_drew HC6.out) HL6.out HKS.out).mono ?_
        rintro e w7 ⟨rfl, hd⟩
        have HB7 := Aside0.mk (below_step HB6d.out (below_of_drawn hd))
        clear hd
        refine ⟨_, rfl, ?_⟩
        refine hKq.out _ _ (HG8.out w7 HB7.out) (fun hHeld => ?_)
        clear hKq Kq
        refine norm_ (a' := ?_) ?_ ?_
        rotate_left
        · show Act.put _ (some 56) _ = _
          simp only [Act.put, List.setIfInBounds_toArray, List.set_cons_zero, List.set_cons_succ, i64_w, i32_w]
          rfl
        refine pure_ (i := 7) (N := some 57) (v := ?_) (a' := ?_) #[true, true, true, true, true, true, true, true, false, false, false, false, false, false, false, false, false, false, false, false, false] rfl rfl (any_of HT_.out (by kernel_rfl)) (fun _ _ _ h => h) (Or.inl ⟨by rfl, ?_⟩) ?_ ?_
        rotate_left
        · intro w'
          go_simp
          with_reducible rfl
        rotate_left
        · simp only [Act.put, List.setIfInBounds_toArray, List.set_cons_zero, List.set_cons_succ, i64_w, i32_w]
          rfl
        refine pure_ (i := 8) (N := some 58) (v := ?_) (a' := ?_) #[true, true, true, true, true, true, true, true, true, false, false, false, false, false, false, false, false, false, false, false, false] rfl rfl (any_of HT_.out (by kernel_rfl)) (fun _ _ _ h => h) (Or.inl ⟨by rfl, ?_⟩) ?_ ?_
        rotate_left
        · intro w'
          go_simp
          with_reducible rfl
        rotate_left
        · simp only [Act.put, List.setIfInBounds_toArray, List.set_cons_zero, List.set_cons_succ, i64_w, i32_w]
          rfl
        refine pure_ (i := 9) (N := some 59) (v := ?_) (a' := ?_) #[true, true, true, true, true, true, true, true, true, true, false, false, false, false, false, false, false, false, false, false, false] rfl rfl (any_of HT_.out (by kernel_rfl)) (fun _ _ _ h => h) (Or.inl ⟨by rfl, ?_⟩) ?_ ?_
        rotate_left
        · intro w'
          go_simp
          with_reducible rfl
        rotate_left
        · simp only [Act.put, List.setIfInBounds_toArray, List.set_cons_zero, List.set_cons_succ, i64_w, i32_w]
          rfl
        refine pure_ (i := 10) (N := some 60) (v := ?_) (a' := ?_) #[true, true, true, true, true, true, true, true, true, true, true, false, false, false, false, false, false, false, false, false, false] rfl rfl (any_of HT_.out (by kernel_rfl)) (fun _ _ _ h => h) (Or.inl ⟨by rfl, ?_⟩) ?_ ?_
        rotate_left
        · intro w'
          go_simp
          with_reducible rfl
        rotate_left
        · simp only [Act.put, List.setIfInBounds_toArray, List.set_cons_zero, List.set_cons_succ, i64_w, i32_w]
          rfl
        refine pure_ (i := 11) (N := some 61) (v := ?_) (a' := ?_) #[true, true, true, true, true, true, true, true, true, true, true, true, false, false, false, false, false, false, false, false, false] rfl rfl (any_of HT_.out (by kernel_rfl)) (fun _ _ _ h => h) (Or.inl ⟨by rfl, ?_⟩) ?_ ?_
        rotate_left
        · intro w'
          go_simp
          with_reducible rfl
        rotate_left
        · simp only [Act.put, List.setIfInBounds_toArray, List.set_cons_zero, List.set_cons_succ, i64_w, i32_w]
          rfl
        refine pure_ (i := 13) (N := some 63) (v := ?_) (a' := ?_) #[true, true, true, true, true, true, true, true, true, true, true, true, false, true, false, false, false, false, false, false, false] rfl rfl (any_of HT_.out (by kernel_rfl)) (fun _ _ _ h => h) (Or.inl ⟨by rfl, ?_⟩) ?_ ?_
        rotate_left
        · intro w'
          go_simp
          with_reducible rfl
        rotate_left
        · simp only [Act.put, List.setIfInBounds_toArray, List.set_cons_zero, List.set_cons_succ, i64_w, i32_w]
          rfl
        refine take_ (i := 14) (N := some 64) (v := ?_) (a' := ?_) #[true, true, true, true, true, true, true, true, true, true, true, true, false, true, true, false, false, false, false, false, false] rfl rfl (take_ofW HT_.out HW_.out (by kernel_rfl)) (fun _ _ _ h => h) (Or.inl ⟨by rfl, ?_⟩) hHeld ?_ ?_
        rotate_left
        · rintro w' ⟨s0, s1⟩
          go_simp
          with_reducible rfl
        rotate_left
        · simp only [Act.put, List.setIfInBounds_toArray, List.set_cons_zero, List.set_cons_succ, i64_w, i32_w]
          rfl
        refine pure_ (i := 15) (N := some 65) (v := ?_) (a' := ?_) #[true, true, true, true, true, true, true, true, true, true, true, true, false, true, true, true, false, false, false, false, false] rfl rfl (any_of HT_.out (by kernel_rfl)) (fun _ _ _ h => h) (Or.inl ⟨by rfl, ?_⟩) ?_ ?_
        rotate_left
        · intro w'
          go_simp
          with_reducible rfl
        rotate_left
        · simp only [Act.put, List.setIfInBounds_toArray, List.set_cons_zero, List.set_cons_succ, i64_w, i32_w]
          rfl
        refine pure_ (i := 16) (N := some 66) (v := ?_) (a' := ?_) #[true, true, true, true, true, true, true, true, true, true, true, true, false, true, true, true, true, false, false, false, false] rfl rfl (any_of HT_.out (by kernel_rfl)) (fun _ _ _ h => h) (Or.inl ⟨by rfl, ?_⟩) ?_ ?_
        rotate_left
        · intro w'
          go_simp
          with_reducible rfl
        rotate_left
        · simp only [Act.put, List.setIfInBounds_toArray, List.set_cons_zero, List.set_cons_succ, i64_w, i32_w]
          rfl
        refine take_ (i := 17) (N := some 67) (v := ?_) (a' := ?_) #[true, true, true, true, true, true, true, true, true, true, true, true, false, true, true, true, true, true, false, false, false] rfl rfl (take_ofW HT_.out HW_.out (by kernel_rfl)) (fun _ _ _ h => h) (Or.inl ⟨by rfl, ?_⟩) hHeld ?_ ?_
        rotate_left
        · rintro w' ⟨s0, s1⟩
          go_simp
          with_reducible rfl
        rotate_left
        · simp only [Act.put, List.setIfInBounds_toArray, List.set_cons_zero, List.set_cons_succ, i64_w, i32_w]
          rfl
        refine one_ (i := 12) (N := some 62) #[true, true, true, true, true, true, true, true, true, true, true, true, true, true, true, true, true, true, false, false, false] rfl rfl (one_of HT_.out (by kernel_rfl)) (by decide) (fun Kq hKq => ?_)
        refine goes_ Try.func50 (by kernel_rfl) rfl #[.pointer (some ⟨g, 0, none⟩), .int .i64 z] (by rfl) rfl rfl (by (try simp only [List.map_toArray, List.map_cons, List.map_nil]); first | done | rfl) ?_
        refine (HLS.out w7 HB7.out).mono ?_
        rintro e w8 ⟨v8, rfl, hr, hb⟩
        obtain ⟨A8, c8, e8, hl8, hC8⟩ := Kd.R_reads hr
        subst e8
        have HC8 := Aside0.mk hC8
        have HL8 := Aside0.mk hl8
        have HB8 := Aside0.mk (below_step HB7.out hb)
        clear hr hb hl8 hC8
        refine ⟨_, rfl, ?_⟩
        refine hKq.out _ _ (HG8.out w8 HB8.out) (fun hHeld => ?_)
        clear hKq Kq
        refine norm_ (a' := ?_) ?_ ?_
        rotate_left
        · show Act.put _ (some 62) _ = _
          simp only [Act.put, List.setIfInBounds_toArray, List.set_cons_zero, List.set_cons_succ, i64_w, i32_w]
          rfl
        refine one_ (i := 18) (N := some 68) #[true, true, true, true, true, true, true, true, true, true, true, true, true, true, true, true, true, true, true, false, false] rfl rfl (one_of HT_.out (by kernel_rfl)) (by decide) (fun Kq hKq => ?_)
        refine goes_ Try.func19 (by kernel_rfl) rfl #[.slice A8 yb.length c8, .slice Ai yb.length ci] (by rfl) rfl rfl (by (try simp only [List.map_toArray, List.map_cons, List.map_nil]); first | done | rfl) ?_
        refine (batonref01_Same.calls ky A8 c8 yb Ai ci yb true w8 HC8.out HL8.out (HCI.out w8 HB8.out) HLI.out HKY.out).mono ?_
        rintro e w9 ⟨rfl, hd⟩
        have HB9 := Aside0.mk (below_step HB8.out (below_of_drawn hd))
        clear hd
        refine ⟨_, rfl, ?_⟩
        refine hKq.out _ _ (HG8.out w9 HB9.out) (fun hHeld => ?_)
        clear hKq Kq
        refine norm_ (a' := ?_) ?_ ?_
        rotate_left
        · show Act.put _ (some 68) _ = _
          simp only [Act.put, List.setIfInBounds_toArray, List.set_cons_zero, List.set_cons_succ, i64_w, i32_w]
          rfl
        refine pure_ (i := 19) (N := some 69) (v := ?_) (a' := ?_) #[true, true, true, true, true, true, true, true, true, true, true, true, true, true, true, true, true, true, true, true, false] rfl rfl (any_of HT_.out (by kernel_rfl)) (fun _ _ _ h => h) (Or.inl ⟨by rfl, ?_⟩) ?_ ?_
        rotate_left
        · intro w'
          go_simp
          with_reducible rfl
        rotate_left
        · simp only [Act.put, List.setIfInBounds_toArray, List.set_cons_zero, List.set_cons_succ, i64_w, i32_w]
          rfl
        refine pure_ (i := 20) (N := some 70) (v := ?_) (a' := ?_) #[true, true, true, true, true, true, true, true, true, true, true, true, true, true, true, true, true, true, true, true, true] rfl rfl (any_of HT_.out (by kernel_rfl)) (fun _ _ _ h => h) (Or.inl ⟨by rfl, ?_⟩) ?_ ?_
        rotate_left
        · intro w'
          go_simp
          with_reducible rfl
        rotate_left
        · simp only [Act.put, List.setIfInBounds_toArray, List.set_cons_zero, List.set_cons_succ, i64_w, i32_w]
          rfl
        refine done_ (done_of HT_.out (by kernel_rfl)) ?_
        go_wp2
        go_roundg k1
        case measure => have := HK.out.2.1; omega
        case rel => exact ⟨wrap64 (z + 1), ix + 1, rfl, ⟨HWR.out, by have := HK.out.2.1; omega, by have := HIX.out; omega⟩, ⟨below_step HBR.out HB9.out⟩⟩
      · have hib : decide (z < (bl.length : Int)) = false := decide_eq_false (by omega)
        clear hz hk hil hi
        go_wp2
        go_ret
        exact ⟨rfl, below_step HB1.out HBR.out⟩
theorem Shows_calls {Q : Nat → Prop} {B M0 g nb i : Nat} {bv dv wv v0 v1 v2 : Value} {bl : List (List Int)} {ws : List S183} {bad : List Int} {down cut : Bool} {left : Int} {w : World} (t : Two B M0 g bv dv wv bl (ws.map toW) bad down (dl cut left) Q v0 v1 v2 bl ws w) (fi : Fit nb i bl ws bad left) (hi : i ≤ 100) (hnb : nb ≤ 300) : Calls Try.prog 53 #[.pointer (some ⟨g, 0, none⟩), .agg (stC v0 v1 v2 down cut left)] w fun e w' => e = .returned (.bool true) ∧ Below w.heap.size w w' := by
  cases hd : down with
  | true =>
    subst hd
    exact Shows_down t fi hi hnb rfl
  | false =>
    subst hd
    exact Shows_up t fi hi hnb rfl

end Go.Proofs.Ytdbfclfglpbpmaa.Dsk
