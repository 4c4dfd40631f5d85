/- A disk: what is written waits. No condition. -/
import Derived.Test.YtdbfclfglpbpmaaDskC
namespace Go.Proofs.Ytdbfclfglpbpmaa.Dsk
open Go.AnyFacts Go.Proofs.Ytdbfclfglpbpmaa.Sha Go.RowKit Go.Proofs.YtdbfclfglpbpmaaW.Hand Go.Proofs.YtdbfclfglpbpmaaW.PrintWords Go.Proofs.YtdbfclfglpbpmaaW.PrintLast Go.Proofs.YtdbfclfglpbpmaaW.PrintMore Go.Proofs.Ytdbfclfglpbpmaa.PF21 Go.Proofs.Ytdbfclfglpbpmaa.Base Go.Proofs.Ytdbfclfglpbpmaa.LF21
attribute [local go_sem] max2_int min2_int max_two min_two max_three min_three max_four min_four
set_option linter.unusedVariables false
set_option linter.unusedSimpArgs false

theorem info154 : (Try.prog.info? 154).map (fun i => (i.zero, i.size, i.bytes)) = some (some (.agg #[.int .i64 0, .slice none 0 0]), 2, 32) := by kernel_rfl
theorem Index_l0 (l : List Int) (n : Int) (hl : l.length ≤ 1000000) : ∀ (d i : Nat), l.length - i = d → i ≤ l.length → ∃ r : Int, Ev (fun k => slices_Index_int_int.l0 k l n (l.length : Int) (i : Int)) r ∧ (r ≥ 0 ↔ n ∈ l.drop i) := by
  intro d
  induction d with
  | zero =>
    intro i hd hi
    obtain rfl : i = l.length := by omega
    refine ⟨-1, ev_succ ?_, ?_⟩
    · simp only [slices_Index_int_int.l0, if_neg (show ¬ ((l.length : Int) < (l.length : Int)) by omega)]
      exact ev_some _
    · simp
  | succ d ih =>
    intro i hd hi
    have hlt : i < l.length := by omega
    have hw : wrap64 ((i : Int) + 1) = ((i + 1 : Nat) : Int) := by rw [w64 (by omega) (by omega)]; omega
    by_cases e : n = l[i]
    · refine ⟨(i : Int), ev_succ ?_, ?_⟩
      · simp only [slices_Index_int_int.l0, if_pos (show (i : Int) < (l.length : Int) by omega), if_pos (show (0 : Int) ≤ (i : Int) by omega), rd_lt hlt, if_pos e]
        exact ev_some _
      · rw [List.drop_eq_getElem_cons hlt, ← e]
        simp
    · obtain ⟨r, h1, h2⟩ := ih (i + 1) (by omega) (by omega)
      refine ⟨r, ev_succ ?_, ?_⟩
      · simp only [slices_Index_int_int.l0, if_pos (show (i : Int) < (l.length : Int) by omega), if_pos (show (0 : Int) ≤ (i : Int) by omega), rd_lt hlt, if_neg e, hw]
        exact h1
      · rw [h2, List.drop_eq_getElem_cons hlt, List.mem_cons]
        simp [e]
theorem Contains_ev (l : List Int) (n : Int) (hl : l.length ≤ 1000000) : ∃ k, slices_Contains_int_int.f k l n = some (decide (n ∈ l)) := by
  obtain ⟨r, h1, h2⟩ := Index_l0 l n hl l.length 0 (by omega) (by omega)
  obtain ⟨k, hk⟩ := h1.rounds
  refine ⟨k, ?_⟩
  unfold slices_Contains_int_int.f slices_Index_int_int.f
  have hk' : slices_Index_int_int.l0 k l n (l.length : Int) 0 = some r := hk
  rw [hk', Option.bind_some]
  congr 1
  rw [Bool.eq_iff_iff, decide_eq_true_iff, decide_eq_true_iff, h2, List.drop_zero]
def Nx (wv wv' : Value) (w : World) : Prop := wv'.ownBlock = wv.ownBlock ∨ ∀ k, wv'.ownBlock = some k → w.heap.size ≤ k
section
variable {B M0 g : Nat} {bv dv wv v1 : Value} {bl : List (List Int)} {wt wt' : List S154} {bad : List Int} {down : Bool} {left : Int} {w w1 W : World}
theorem DSt.wbase (s : DSt B M0 g bv dv wv bl wt bad down left w) (k : Nat) (h : wv.ownBlock = some k) : M0 ≤ k := Kd.R_base s.waits k h
/-- The row of the writes that wait has grown. -/
theorem DSt.grow (s : DSt B M0 g bv dv wv bl wt bad down left W) (hr : Kd.R k154 154 w1 M0 (fun k => M0 ≤ k) v1 wt') (hg : W.grownBy w1 wv.ownBlock) : DSt B M0 g bv dv v1 bl wt' bad down left (w1.setCell ⟨g, 1, none⟩ v1) := by
  have hgB := s.gB
  have hb1 : w1.heap[g]? = some (.cells #[bv, wv, dv, .bool down, .int .i64 left] 150 (0, 0)) := blk_grown s.blk hg (fun e => by have := s.wbase g e.symm; omega)
  have hbl : Kd.S (Kd.slice 5 (Kd.int .u8)) 22 w1 B (OB B M0 g dv) bv bl := Kd.S_grown s.blocks hg (fun k hk e => by have := s.wbase k e.symm; have := hk.2.1; omega)
  have hbd : Kd.R (Kd.int .i64) 3 w1 B (fun k => k < M0 ∧ k ≠ g) dv bad := Kd.R_grown s.badr hg (fun k hk e => by have := s.wbase k e.symm; have := hk.1; omega)
  refine ⟨(blk_set hb1 1 v1).trans rfl, Kd.S_far hbl (p := ⟨g, 1, none⟩) (fun k hk => hk.2.2.1) v1, Kd.R_far (p := ⟨g, 1, none⟩) hr (fun k hk => ?_) v1, Kd.R_far (p := ⟨g, 1, none⟩) hbd (fun k hk => hk.2) v1, hgB.1, hgB.2.1, ?_⟩
  · have hk' : M0 ≤ k := hk
    show k ≠ g
    omega
  · rw [World.size_setCell]; exact Nat.le_trans hgB.2.2 hg.size
theorem Stp.grow (h : Stp B M0 g dv wv w W) (s : DSt B M0 g bv dv wv bl wt bad down left W) (hg : W.grownBy w1 wv.ownBlock) : Stp B M0 g dv wv w w1 :=
  ⟨pw_below_grown h.below wv.ownBlock (by have := s.gB; omega) hg (fun k e => by have := s.wbase k e; have := s.gB; omega), Kept.of_grown hg h.kept (fun k e => .inl (.inr (.inr e.symm)))⟩
end
set_option maxHeartbeats 8000000 in
set_option maxRecDepth 100000 in
theorem DSt.Write_down {B M0 g : Nat} {bv dv wv : Value} {bl : List (List Int)} {wt : List S154} {bad : List Int} {down : Bool} {left : Int} {w : World} (s : DSt B M0 g bv dv wv bl wt bad down left w) (hd : down = true) (n : Int) (A2 : Option Addr) (c2 : Nat) (b : List Int) : Calls Try.prog 45 #[.pointer (some ⟨g, 0, none⟩), .int .i64 n, .slice A2 b.length c2] w fun e w' => e = .returned (.int .i64 19) ∧ DSt B M0 g bv dv wv bl wt bad down left w' ∧ Stp B M0 g dv wv w w' := by
  have hx3 := s.cell3
  rw [hd] at hx3
  have HS := Aside0.mk s
  clear s hd
  go_enter Try.func45, Try.ntmps45
  go_wp2
  go_ret
  exact ⟨rfl, HS.out, Stp.refl B M0 g dv wv w⟩
set_option maxHeartbeats 8000000 in
set_option maxRecDepth 100000 in
theorem DSt.Write_arg {B M0 g : Nat} {bv dv wv : Value} {bl : List (List Int)} {wt : List S154} {bad : List Int} {down : Bool} {left : Int} {w : World} (s : DSt B M0 g bv dv wv bl wt bad down left w) (hd : down = false) (n : Int) (A2 : Option Addr) (c2 : Nat) (b : List Int) (hn : ¬ (0 ≤ n ∧ n < (bl.length : Int)) ∨ b.length ≠ 256) : Calls Try.prog 45 #[.pointer (some ⟨g, 0, none⟩), .int .i64 n, .slice A2 b.length c2] w fun e w' => e = .returned (.int .i64 1) ∧ DSt B M0 g bv dv wv bl wt bad down left w' ∧ Stp B M0 g dv wv w w' := by
  have hx3 := s.cell3
  rw [hd] at hx3
  have HS := Aside0.mk s
  by_cases h : 0 ≤ n ∧ n < (bl.length : Int)
  · have hth : decide (0 ≤ n ∧ n < (bl.length : Int)) = true := decide_eq_true h
    have hlen : ((b.length : Int) != 256) = true := by
      have := hn.resolve_left (fun h2 => h2 h)
      simp; omega
    clear s hd hn h
    go_enter Try.func45, Try.ntmps45
    go_wp2_with (first
      | (go_at_call 77; refine (HS.out.there n).mono ?_; rintro e w2 ⟨rfl, hb⟩; have HB2 := Aside0.mk (below_step (Below.refl _ _) hb); have HS2 := Aside0.mk (HS.out.below hb); clear hb; (try rw [hth])))
    go_ret
    exact ⟨rfl, HS2.out, (Stp.refl B M0 g dv wv w).then_ (by have := HS.out.gB; omega) HB2.out⟩
  · have hth : decide (0 ≤ n ∧ n < (bl.length : Int)) = false := decide_eq_false h
    clear s hd hn h
    go_enter Try.func45, Try.ntmps45
    go_wp2_with (first
      | (go_at_call 77; refine (HS.out.there n).mono ?_; rintro e w2 ⟨rfl, hb⟩; have HB2 := Aside0.mk (below_step (Below.refl _ _) hb); have HS2 := Aside0.mk (HS.out.below hb); clear hb; (try rw [hth])))
    go_ret
    exact ⟨rfl, HS2.out, (Stp.refl B M0 g dv wv w).then_ (by have := HS.out.gB; omega) HB2.out⟩
set_option maxHeartbeats 8000000 in
set_option maxRecDepth 100000 in
theorem DSt.Write_bad {B M0 g : Nat} {bv dv wv : Value} {bl : List (List Int)} {wt : List S154} {bad : List Int} {down : Bool} {left : Int} {w : World} (s : DSt B M0 g bv dv wv bl wt bad down left w) (hd : down = false) (n : Int) (A2 : Option Addr) (c2 : Nat) (b : List Int) (hn : 0 ≤ n ∧ n < (bl.length : Int)) (hb : b.length = 256) (hbl : bad.length ≤ 1000) (hbd : n ∈ bad) : Calls Try.prog 45 #[.pointer (some ⟨g, 0, none⟩), .int .i64 n, .slice A2 b.length c2] w fun e w' => e = .returned (.int .i64 17) ∧ DSt B M0 g bv dv wv bl wt bad down left w' ∧ Stp B M0 g dv wv w w' := by
  have hx3 := s.cell3
  rw [hd] at hx3
  have HS := Aside0.mk s
  obtain ⟨Ad, cd, ed, hdl, hdC⟩ := Kd.R_reads s.badr
  have hx2 : w.cell? ⟨g, 2, none⟩ = some (.slice Ad bad.length cd) := by rw [s.cell2, ed]
  have hlen : ((b.length : Int) != 256) = false := by simp; omega
  obtain ⟨kc, hkc⟩ := Contains_ev bad n (by omega)
  obtain ⟨bc, hbc⟩ : ∃ bc, bc = decide (n ∈ bad) := ⟨_, rfl⟩
  rw [← hbc] at hkc
  have HCO := Aside0.mk hkc
  have HD := Aside0.mk hdC
  have HDL := Aside0.mk hdl
  have HX2 := Aside0.mk hx2
  have hth : decide (0 ≤ n ∧ n < (bl.length : Int)) = true := decide_eq_true hn
  rw [decide_eq_true hbd] at hbc
  subst hbc
  clear s hd hn hb hbl hbd ed hdl hdC hkc hx2
  go_enter Try.func45, Try.ntmps45
  go_wp2_with (first
    | (go_at_call 77; refine (HS.out.there n).mono ?_; rintro e w2 ⟨rfl, hb⟩; have HB2 := Aside0.mk (below_step (Below.refl _ _) hb); have HS2 := Aside0.mk (HS.out.below hb); clear hb; rw [hth]; have hx2 := cell_below HB2.out HX2.out)
    | (go_at_call 78; refine (slices_Contains_int_int.calls kc Ad cd bad n _ _ (Kd.C_below HD.out HB2.out) HDL.out HCO.out).mono ?_; rintro e w3 ⟨rfl, hd⟩; have HB3 := Aside0.mk (below_step HB2.out (below_of_drawn hd)); have HS3 := Aside0.mk (HS2.out.below (below_of_drawn hd)); clear hd))
  go_ret
  exact ⟨rfl, HS3.out, (Stp.refl B M0 g dv wv w).then_ (by have := HS.out.gB; omega) HB3.out⟩
set_option maxHeartbeats 8000000 in
set_option maxRecDepth 100000 in
theorem DSt.Write_cut {B M0 g : Nat} {bv dv wv : Value} {bl : List (List Int)} {wt : List S154} {bad : List Int} {down : Bool} {left : Int} {w : World} (s : DSt B M0 g bv dv wv bl wt bad down left w) (hd : down = false) (n : Int) (A2 : Option Addr) (c2 : Nat) (b : List Int) (hn : 0 ≤ n ∧ n < (bl.length : Int)) (hb : b.length = 256) (hbl : bad.length ≤ 1000) (hbd : n ∉ bad) (h0 : left = 0) : Calls Try.prog 45 #[.pointer (some ⟨g, 0, none⟩), .int .i64 n, .slice A2 b.length c2] w fun e w' => e = .returned (.int .i64 19) ∧ DSt B M0 g bv dv wv bl wt bad true left w' ∧ Stp B M0 g dv wv w w' := by
  have hx3 := s.cell3
  rw [hd] at hx3
  have HS := Aside0.mk s
  obtain ⟨Ad, cd, ed, hdl, hdC⟩ := Kd.R_reads s.badr
  have hx2 : w.cell? ⟨g, 2, none⟩ = some (.slice Ad bad.length cd) := by rw [s.cell2, ed]
  have hlen : ((b.length : Int) != 256) = false := by simp; omega
  obtain ⟨kc, hkc⟩ := Contains_ev bad n (by omega)
  obtain ⟨bc, hbc⟩ : ∃ bc, bc = decide (n ∈ bad) := ⟨_, rfl⟩
  rw [← hbc] at hkc
  have HCO := Aside0.mk hkc
  have HD := Aside0.mk hdC
  have HDL := Aside0.mk hdl
  have HX2 := Aside0.mk hx2
  have hth : decide (0 ≤ n ∧ n < (bl.length : Int)) = true := decide_eq_true hn
  rw [decide_eq_false hbd] at hbc
  subst hbc
  clear s hd hn hb hbl hbd ed hdl hdC hkc hx2
  go_enter Try.func45, Try.ntmps45
  go_wp2_with (first
    | (go_at_call 77; refine (HS.out.there n).mono ?_; rintro e w2 ⟨rfl, hb⟩; have HB2 := Aside0.mk (below_step (Below.refl _ _) hb); have HS2 := Aside0.mk (HS.out.below hb); clear hb; rw [hth]; have hx2 := cell_below HB2.out HX2.out)
    | (go_at_call 78; refine (slices_Contains_int_int.calls kc Ad cd bad n _ _ (Kd.C_below HD.out HB2.out) HDL.out HCO.out).mono ?_; rintro e w3 ⟨rfl, hd⟩; have HB3 := Aside0.mk (below_step HB2.out (below_of_drawn hd)); have HS3 := Aside0.mk (HS2.out.below (below_of_drawn hd)); clear hd)
    | (go_at_call 79; refine (HS3.out.step0 h0).mono ?_; rintro e w5 ⟨rfl, h1, h2⟩; have HS5 := Aside0.mk h1; have HP5 := Aside0.mk (((Stp.refl B M0 g dv wv w).then_ (by have := HS.out.gB; omega) HB3.out).join h2 (fun _ h => .inl h)); clear h1 h2))
  go_ret
  exact ⟨rfl, HS5.out, HP5.out⟩
def Dw45_9.T : Bool × List (List Nat × List Nat) := (true, [([], []), ([], []), ([1], [1]), ([2], [2]), ([3], [3]), ([], []), ([], []), ([6], [6]), ([5, 7], [5, 7]), ([8], [8]), ([4, 9, 7], [4, 9]), ([0, 0, 1, 2, 3, 4, 5, 6, 7, 8, 9, 10], [0]), ([11, 0, 1, 2, 3, 4, 5, 6, 7, 8, 9, 10], [11]), ([12, 10, 10, 0, 1, 2, 3, 4, 5, 6, 7, 8, 9, 10], [10, 12])])
def Dw45_9.B : List Nat := [0, 0, 2, 6, 14, 0, 0, 64, 224, 480, 1022, 2047, 4095, 8191]
theorem Dw45_9.tab : rtab .any (opsOf Try.f45 9) = Dw45_9.T := by kernel_rfl
theorem Dw45_9.bits : waitsOk Dw45_9.T.2 Dw45_9.B = true := by kernel_rfl
set_option maxHeartbeats 8000000 in
set_option maxRecDepth 100000 in
theorem DSt.Write_ok {B M0 g : Nat} {bv dv wv : Value} {bl : List (List Int)} {wt : List S154} {bad : List Int} {down : Bool} {left : Int} {w : World} (s : DSt B M0 g bv dv wv bl wt bad down left w) (hd : down = false) (n : Int) (A2 : Option Addr) (c2 : Nat) (b : List Int) (hC : Kd.F (Kd.int .u8) w (fun k => ¬ Mut B M0 g dv wv k) A2 b.length b) (hc : b.length ≤ c2) (hn : 0 ≤ n ∧ n < (bl.length : Int)) (hb : b.length = 256) (hbl : bad.length ≤ 1000) (hbd : n ∉ bad) (h0 : left ≠ 0) (hm : left ≤ 9223372036854775807) (hwt : wt.length ≤ 1000) : Calls Try.prog 45 #[.pointer (some ⟨g, 0, none⟩), .int .i64 n, .slice A2 b.length c2] w fun e w' => e = .returned (.int .i64 0) ∧ ∃ wv', DSt B M0 g bv dv wv' bl (wt ++ [⟨n, b⟩]) bad down (dec left) w' ∧ Stp B M0 g dv wv w w' ∧ Nx wv wv' w := by
  have hx3 := s.cell3
  rw [hd] at hx3
  have HS := Aside0.mk s
  obtain ⟨Ad, cd, ed, hdl, hdC⟩ := Kd.R_reads s.badr
  have hx2 : w.cell? ⟨g, 2, none⟩ = some (.slice Ad bad.length cd) := by rw [s.cell2, ed]
  have hlen : ((b.length : Int) != 256) = false := by simp; omega
  obtain ⟨kc, hkc⟩ := Contains_ev bad n (by omega)
  obtain ⟨bc, hbc⟩ : ∃ bc, bc = decide (n ∈ bad) := ⟨_, rfl⟩
  rw [← hbc] at hkc
  have HCO := Aside0.mk hkc
  have HD := Aside0.mk hdC
  have HDL := Aside0.mk hdl
  have HX2 := Aside0.mk hx2
  have hth : decide (0 ≤ n ∧ n < (bl.length : Int)) = true := decide_eq_true hn
  rw [decide_eq_false hbd] at hbc
  subst hbc
  have HC := Aside0.mk hC
  have HCL := Aside0.mk hc
  have HLB := Aside0.mk (show b.length < 140737488355328 by omega)
  have HWT := Aside0.mk hwt
  clear s hd hn hb hbl hbd ed hdl hdC hkc hx2 hC hc hwt
  go_enter Try.func45, Try.ntmps45
  go_wp2_with (first
    | (go_at_call 77; refine (HS.out.there n).mono ?_; rintro e w2 ⟨rfl, hb⟩; have HB2 := Aside0.mk (below_step (Below.refl _ _) hb); have HS2 := Aside0.mk (HS.out.below hb); clear hb; rw [hth]; have hx2 := cell_below HB2.out HX2.out)
    | (go_at_call 78; refine (slices_Contains_int_int.calls kc Ad cd bad n _ _ (Kd.C_below HD.out HB2.out) HDL.out HCO.out).mono ?_; rintro e w3 ⟨rfl, hd⟩; have HB3 := Aside0.mk (below_step HB2.out (below_of_drawn hd)); have HS3 := Aside0.mk (HS2.out.below (below_of_drawn hd)); clear hd)
    | (go_at_call 79; refine (HS3.out.step1 h0 hm).mono ?_; rintro e w5 ⟨rfl, h1, h2⟩; have HS5 := Aside0.mk h1; have HP5 := Aside0.mk (((Stp.refl B M0 g dv wv w).then_ (by have := HS.out.gB; omega) HB3.out).join h2 (fun _ h => .inl h)); clear h1 h2))
  have HXW := Aside0.mk HS5.out.drew.cell1
  have HM0 := Aside0.mk HS5.out.drew.gB.2.2
  have HBS := Aside0.mk (show B ≤ w5.drew.heap.size by have := HS5.out.drew.gB; omega)
  have HCW := Aside0.mk (Kd.C_drew (Kd.F_now (Kd.F_kept HC.out HP5.out.kept (fun _ h => h))))
  refine start_ (n := 14) (S := fun w' => w'.cell? ⟨g, 1, none⟩ = some wv) (ds := [13]) #[false, false, false, false, false, false, false, false, false, false, false, false, false, false] (by kernel_rfl) rfl rfl (HXW.out) (fun hHeld => ?_); refine with_tabW Dw45_9.tab Dw45_9.bits (fun HT_ HW_ => ?_)
  refine pure_ (i := 0) (N := some 33) (v := ?_) (a' := ?_) #[true, false, false, false, false, false, false, false, false, false, false, false, false, false] rfl rfl (any_of HT_.out (by kernel_rfl)) (fun _ _ _ h => h) (Or.inl ⟨by rfl, ?_⟩) ?_ ?_
  rotate_left
  · intro w'
    go_simp
    with_reducible rfl
  rotate_left
  · simp only [Act.put, List.setIfInBounds_toArray, List.set_cons_zero, List.set_cons_succ, i64_w, i32_w]
    rfl
  refine pure_ (i := 1) (N := some 34) (v := ?_) (a' := ?_) #[true, true, false, false, false, false, false, false, false, false, false, false, false, false] rfl rfl (any_of HT_.out (by kernel_rfl)) (fun _ _ _ h => h) (Or.inl ⟨by rfl, ?_⟩) ?_ ?_
  rotate_left
  · intro w'
    go_simp
    with_reducible rfl
  rotate_left
  · simp only [Act.put, List.setIfInBounds_toArray, List.set_cons_zero, List.set_cons_succ, i64_w, i32_w]
    rfl
  refine pure_ (i := 2) (N := some 35) (v := ?_) (a' := ?_) #[true, true, true, false, false, false, false, false, false, false, false, false, false, false] rfl rfl (any_of HT_.out (by kernel_rfl)) (fun _ _ _ h => h) (Or.inl ⟨by rfl, ?_⟩) ?_ ?_
  rotate_left
  · intro w'
    go_simp
    with_reducible rfl
  rotate_left
  · simp only [Act.put, List.setIfInBounds_toArray, List.set_cons_zero, List.set_cons_succ, i64_w, i32_w]
    rfl
  refine pure_ (i := 3) (N := some 36) (v := ?_) (a' := ?_) #[true, true, true, true, false, false, false, false, false, false, false, false, false, false] rfl rfl (any_of HT_.out (by kernel_rfl)) (fun _ _ _ h => h) (Or.inl ⟨by rfl, ?_⟩) ?_ ?_
  rotate_left
  · intro w'
    go_simp
    with_reducible rfl
  rotate_left
  · simp only [Act.put, List.setIfInBounds_toArray, List.set_cons_zero, List.set_cons_succ, i64_w, i32_w]
    rfl
  refine take_ (i := 4) (N := some 37) (v := ?_) (a' := ?_) #[true, true, true, true, true, false, false, false, false, false, false, false, false, false] rfl rfl (take_ofW HT_.out HW_.out (by kernel_rfl)) (fun _ _ _ h => h) (Or.inl ⟨by rfl, ?_⟩) hHeld ?_ ?_
  rotate_left
  · intro w' s0
    go_simp
    with_reducible rfl
  rotate_left
  · simp only [Act.put, List.setIfInBounds_toArray, List.set_cons_zero, List.set_cons_succ, i64_w, i32_w]
    rfl
  refine pure_ (i := 5) (N := some 38) (v := ?_) (a' := ?_) #[true, true, true, true, true, true, false, false, false, false, false, false, false, false] rfl rfl (any_of HT_.out (by kernel_rfl)) (fun _ _ _ h => h) (Or.inl ⟨by rfl, ?_⟩) ?_ ?_
  rotate_left
  · intro w'
    go_simp
    with_reducible rfl
  rotate_left
  · simp only [Act.put, List.setIfInBounds_toArray, List.set_cons_zero, List.set_cons_succ, i64_w, i32_w]
    rfl
  refine pure_ (i := 6) (N := some 39) (v := ?_) (a' := ?_) #[true, true, true, true, true, true, true, false, false, false, false, false, false, false] rfl rfl (any_of HT_.out (by kernel_rfl)) (fun _ _ _ h => h) (Or.inl ⟨by rfl, ?_⟩) ?_ ?_
  rotate_left
  · intro w'
    go_simp
    with_reducible rfl
  rotate_left
  · simp only [Act.put, List.setIfInBounds_toArray, List.set_cons_zero, List.set_cons_succ, i64_w, i32_w]
    rfl
  refine one_ (i := 7) (N := some 40) #[true, true, true, true, true, true, true, true, false, false, false, false, false, false] rfl rfl (one_of HT_.out (by kernel_rfl)) (by decide) (fun Kq hKq => ?_)
  refine goes_ Try.func72 (by kernel_rfl) rfl #[.slice A2 b.length c2] (by rfl) rfl rfl (by (try simp only [List.map_toArray, List.map_cons, List.map_nil]); first | done | rfl) ?_
  refine (slices_Clone_byte_byte.calls A2 c2 b b w5.drew HCW.out HCL.out (by unfold slices_Clone_byte_byte.f; rw [if_pos HLB.out])).mono ?_
  rintro e w6 ⟨v6, rfl, hr, hb⟩
  obtain ⟨A6, c6, e6⟩ := Kd.R_slice hr
  subst e6
  have HR6 := Aside0.mk (Kd.R_lower hr HM0.out)
  have HS6 := Aside0.mk (HS5.out.drew.below hb)
  have HP6 := Aside0.mk ((HP5.out.then_ HBS.out (below_drew (Below.refl _ _))).then_ HBS.out hb)
  clear hr hb
  refine ⟨_, rfl, ?_⟩
  refine hKq.out _ _ HS6.out.cell1 (fun hHeld => ?_)
  clear hKq Kq
  refine norm_ (a' := ?_) ?_ ?_
  rotate_left
  · show Act.put _ (some 40) _ = _
    simp only [Act.put, List.setIfInBounds_toArray, List.set_cons_zero, List.set_cons_succ, i64_w, i32_w]
    rfl
  refine pure_ (i := 8) (N := some 41) (v := ?_) (a' := ?_) #[true, true, true, true, true, true, true, true, true, false, false, false, false, false] rfl rfl (any_of HT_.out (by kernel_rfl)) (fun _ _ _ h => h) (Or.inl ⟨by rfl, ?_⟩) ?_ ?_
  rotate_left
  · intro w'
    go_simp
    with_reducible rfl
  rotate_left
  · simp only [Act.put, List.setIfInBounds_toArray, List.set_cons_zero, List.set_cons_succ, i64_w, i32_w]
    rfl
  refine one_ (i := 9) (N := some 42) #[true, true, true, true, true, true, true, true, true, true, false, false, false, false] rfl rfl (one_of HT_.out (by kernel_rfl)) (by decide) (fun Kq hKq => ?_)
  refine value_ (w1 := ?_) (v := ?_) (by rfl) rfl ?_ ?_
  rotate_left 2
  · go_simp
    constructor
    · rfl
    · rfl
  refine hKq.out _ _ (HS6.out.below (below_alloc (Below.refl _ _) _)).cell1 (fun hHeld => ?_)
  clear hKq Kq
  refine norm_ (a' := ?_) ?_ ?_
  rotate_left
  · show Act.put _ (some 42) _ = _
    simp only [Act.put, List.setIfInBounds_toArray, List.set_cons_zero, List.set_cons_succ, i64_w, i32_w]
    rfl
  refine one_ (i := 10) (N := some 43) #[true, true, true, true, true, true, true, true, true, true, true, false, false, false] rfl rfl (one_of HT_.out (by kernel_rfl)) (by decide) (fun Kq hKq => ?_)
  refine Kd.R_append_step k154 (w0 := w6) M0 (by rfl) (.tmp 37) (.tmp 42) 148 154 (.agg #[.int .i64 0, .slice none 0 0]) 32 rfl Try.underlying148 info154 rfl (by decide) (by omega) wv wt ⟨n, b⟩ [.int .i64 n, .slice A6 b.length c6] (fun k => M0 ≤ k) (fun k => M0 ≤ k ∧ some k ≠ wv.ownBlock) rfl rfl (k154_mkM _ _ _ ⟨n, b⟩ (Kd.R_mono (Kd.R_bound (Kd.R_apart' HR6.out (Kd.R_typed HS6.out.waits) (by decide))) (fun k hk => ⟨hk.2.1, hk.1.2⟩))) (fun k hk => hk) (fun k hk => Nat.le_trans HS6.out.gB.2.2 hk) HS6.out.waits (Below.refl _ _) HS6.out.gB.2.2 (by have := HWT.out; omega) ?_
  intro v7 w7 hr7 hb7 hg7 hat7
  obtain ⟨A7, c7, e7⟩ := Kd.R_slice hr7
  rw [List.length_append, List.length_singleton] at e7
  subst e7
  have HS7 := Aside0.mk (HS6.out.grow hr7 hg7)
  have HP7 := Aside0.mk (HP6.out.grow HS6.out hg7)
  have HN7 := Aside0.mk (show Nx wv (.slice A7 (wt.length + 1) c7) w6 from hat7.imp id (fun ⟨q, e, h⟩ k e2 => by rw [e] at e2; injection e2 with e2; omega))
  have hx7 : w7.cell? ⟨g, 1, none⟩ = some wv := (blk_cell (blk_grown HS6.out.blk hg7 (fun e => by have := HS6.out.wbase g e.symm; have := HS6.out.gB; omega)) 1).trans rfl
  have hf7 : w7.frozen? ⟨g, 1, none⟩ = false := blk_frozen (blk_grown HS6.out.blk hg7 (fun e => by have := HS6.out.wbase g e.symm; have := HS6.out.gB; omega)) 1
  clear hr7 hb7 hg7 hat7
  refine hKq.out _ _ hx7 (fun hHeld => ?_)
  clear hKq Kq
  refine norm_ (a' := ?_) ?_ ?_
  rotate_left
  · show Act.put _ (some 43) _ = _
    simp only [Act.put, List.setIfInBounds_toArray, List.set_cons_zero, List.set_cons_succ, i64_w, i32_w]
    rfl
  refine pure_ (i := 11) (N := some 44) (v := ?_) (a' := ?_) #[true, true, true, true, true, true, true, true, true, true, true, true, false, false] rfl rfl (any_of HT_.out (by kernel_rfl)) (fun _ _ _ h => h) (Or.inl ⟨by rfl, ?_⟩) ?_ ?_
  rotate_left
  · intro w'
    go_simp
    with_reducible rfl
  rotate_left
  · simp only [Act.put, List.setIfInBounds_toArray, List.set_cons_zero, List.set_cons_succ, i64_w, i32_w]
    rfl
  refine pure_ (i := 12) (N := some 45) (v := ?_) (a' := ?_) #[true, true, true, true, true, true, true, true, true, true, true, true, true, false] rfl rfl (any_of HT_.out (by kernel_rfl)) (fun _ _ _ h => h) (Or.inl ⟨by rfl, ?_⟩) ?_ ?_
  rotate_left
  · intro w'
    go_simp
    with_reducible rfl
  rotate_left
  · simp only [Act.put, List.setIfInBounds_toArray, List.set_cons_zero, List.set_cons_succ, i64_w, i32_w]
    rfl
  refine last_ (i := 13) (N := none) #[true, true, true, true, true, true, true, true, true, true, true, true, true, true] rfl rfl (one_of HT_.out (by kernel_rfl)) (by decide) (fun Kq hKq => ?_)
  refine skip_ (w1 := ?_) (by rfl) rfl ?_ ?_
  rotate_left
  · go_simp
    rfl
  refine hKq.out _ _ ?_
  clear hKq Kq
  refine done_ (done_of HT_.out (by kernel_rfl)) ?_
  go_wp2
  go_ret
  exact ⟨rfl, _, HS7.out, HP7.out.setg HS6.out.gB.1 1 _, HN7.out.imp id (fun h k e => Nat.le_trans HP6.out.kept.1 (h k e))⟩

end Go.Proofs.Ytdbfclfglpbpmaa.Dsk
