/- The law DiskPlays, walked by hand. No condition. -/
import Derived.Test.YtdbfclfglpbpmaaDskV
namespace Go.Proofs.Ytdbfclfglpbpmaa.Dsk
open Go.AnyFacts Go.Proofs.Ytdbfclfglpbpmaa.Sha Go.RowKit Go.Proofs.YtdbfclfglpbpmaaW.Hand Go.Proofs.YtdbfclfglpbpmaaW.PrintWords Go.Proofs.YtdbfclfglpbpmaaW.PrintLast Go.Proofs.YtdbfclfglpbpmaaW.PrintMore Go.Proofs.Ytdbfclfglpbpmaa.PF21 Go.Proofs.Ytdbfclfglpbpmaa.Base Go.Proofs.Ytdbfclfglpbpmaa.LF21
attribute [local go_sem] max2_int min2_int max_two min_two max_three min_three max_four min_four
set_option linter.unusedVariables false
set_option linter.unusedSimpArgs false

theorem RNew_l0 (n : Nat) (bad : List Int) (hn : n ≤ 256) : ∀ (d i : Nat), n - i = d → i ≤ n → Ev (fun k => batonref21_New.l0 k (n : Int) (i : Int) (List.replicate i zeros) bad false false 0) (List.replicate n zeros, [], bad, false, false, 0) := by
  intro d
  induction d with
  | zero =>
    intro i hd hi
    obtain rfl : i = n := by omega
    apply ev_succ
    simp only [batonref21_New.l0, if_neg (show ¬ ((i : Int) < (i : Int)) by omega)]
    exact ev_some _
  | succ d ih =>
    intro i hd hi
    have hw : wrap64 ((i : Int) + 1) = ((i + 1 : Nat) : Int) := by rw [w64 (by omega) (by omega)]; omega
    apply ev_succ
    simp only [batonref21_New.l0, if_pos (show (i : Int) < (n : Int) by omega), if_pos (show (256 : Int) ≤ 281474976710656 by decide), List.length_replicate, if_pos (show i < 5864062014805 by omega), hw]
    rw [show List.replicate i zeros ++ [List.replicate 256 0] = List.replicate (i + 1) zeros from (List.replicate_succ' (n := i) (a := zeros)).symm]
    exact ih (i + 1) (by omega) (by omega)
theorem RNew_ev (n : Nat) (bad : List Int) (hn : n ≤ 256) : ∃ k, batonref21_New.f k (n : Int) bad = some (List.replicate n zeros, [], bad, false, false, 0) := by
  obtain ⟨k, hk⟩ := (RNew_l0 n bad hn n 0 (by omega) (by omega)).rounds
  exact ⟨k, hk⟩
/-- Behind some ops: the disk, the document's state in its box g9. -/
structure Lq (g9 B : Nat) (W : World) (M0 g : Nat) (bv dv : Value) (bad : List Int) (nb i : Nat) (wv : Value) (bl : List (List Int)) (ws : List S183) (down cut : Bool) (left : Int) (v0 v1 v2 : Value) (wr : World) : Prop where
  two : Two B M0 g bv dv wv bl (ws.map toW) bad down (dl cut left) (fun k => k ≠ g9) v0 v1 v2 bl ws wr
  fit : Fit nb i bl ws bad left
  box : wr.heap[g9]? = some (.cells #[v0, v1, v2, .bool down, .bool cut, .int .i64 left] 102 (0, 0))
  below : Below B W wr
theorem Lq.later {g9 B : Nat} {W : World} {M0 g : Nat} {bv dv : Value} {bad : List Int} {nb i : Nat} {wv : Value} {bl : List (List Int)} {ws : List S183} {down cut : Bool} {left : Int} {v0 v1 v2 : Value} {wr w1 : World} (h : Lq g9 B W M0 g bv dv bad nb i wv bl ws down cut left v0 v1 v2 wr) (hb : Below wr.heap.size wr w1) : Lq g9 B W M0 g bv dv bad nb i wv bl ws down cut left v0 v1 v2 w1 :=
  ⟨h.two.later hb, h.fit, blk_below h.box hb, below_then h.below (by have := h.two.st.gB; omega) hb⟩
def Dw1711_17.T : Bool × List (List Nat × List Nat) := (true, [([], []), ([], []), ([], []), ([], []), ([2, 3], [2, 3]), ([4], [4]), ([0, 1, 5], [0, 1, 5]), ([6], [6]), ([7], [7]), ([7], [7]), ([8, 6, 0, 1, 2, 3, 4, 5, 6, 7, 8], [8]), ([9, 10, 0, 1, 2, 3, 4, 5, 6, 7, 8, 9, 10], [9])])
def Dw1711_17.B : List Nat := [0, 0, 0, 0, 12, 28, 63, 127, 255, 255, 511, 2047]
theorem Dw1711_17.tab : rtab .any (opsOf Try.f11 17) = Dw1711_17.T := by kernel_rfl
theorem Dw1711_17.bits : waitsOk Dw1711_17.T.2 Dw1711_17.B = true := by kernel_rfl
set_option maxHeartbeats 8000000 in
set_option maxRecDepth 100000 in
theorem DiskPlays_calls (z0 : Int) (Ab : Option Addr) (cb : Nat) (bad : List Int) (Al : Option Addr) (cl : Nat) (l : List DOp) (w : World) (hz0 : -9223372036854775808 ≤ z0 ∧ z0 ≤ 9223372036854775807) (hC1 : Kd.C (Kd.int .i64) w Ab bad.length bad) (hc1 : bad.length ≤ cb) (hC2 : Kd.C kOp w Al l.length l) (hc2 : l.length ≤ cl) (hwf : ∀ x ∈ l, WFOp x) :
    Calls Try.prog 11 #[.int .i64 z0, .slice Ab bad.length cb, .slice Al l.length cl] w fun e w' => e = .returned (.bool true) ∧ Below w.heap.size w w' := by
  have HCB := Aside0.mk hC1
  have HCBL := Aside0.mk hc1
  have HFB := Aside0.mk (F_in hC1)
  have HC := Aside0.mk hC2
  have HWF := Aside0.mk hwf
  have hpt := ptrW_true
  have hpf := ptrW_false
  clear hC1 hc1 hC2 hc2 hwf
  by_cases hb10 : bad.length > 10
  · have hd1 : decide ((bad.length : Int) > 10) = true := decide_eq_true (by omega)
    clear hb10 hz0
    go_enter Try.func11, Try.ntmps11
    go_wp2_with (first
      | (go_at_call 43; refine (awake_calls _).mono ?_; rintro e w2 ⟨rfl, hb⟩; have HB2 := Aside0.mk hb; clear hb))
    go_ret
    exact ⟨rfl, HB2.out⟩
  have hd1 : decide ((bad.length : Int) > 10) = false := decide_eq_false (by omega)
  by_cases hl30 : l.length > 30
  · have hd2 : decide ((l.length : Int) > 30) = true := decide_eq_true (by omega)
    clear hb10 hl30 hz0
    go_enter Try.func11, Try.ntmps11
    go_wp2_with (first
      | (go_at_call 43; refine (awake_calls _).mono ?_; rintro e w2 ⟨rfl, hb⟩; have HB2 := Aside0.mk hb; clear hb))
    go_ret
    exact ⟨rfl, HB2.out⟩
  have hd2 : decide ((l.length : Int) > 30) = false := decide_eq_false (by omega)
  by_cases hbig : z0 > 256
  · have hd3 : decide (z0 > 6) = true := decide_eq_true (by omega)
    have hd4 : decide (z0 ≤ 256) = false := decide_eq_false (by omega)
    have hd5 : decide (z0 < 1) = false := decide_eq_false (by omega)
    have hd6 : decide (z0 > 256) = true := decide_eq_true hbig
    have HNF := Aside0.mk (show disk_New.f 0 z0 bad = some (false, [], [], [], false, 0, 22) by unfold disk_New.f; rw [if_neg (by omega), if_pos hbig])
    clear hb10 hl30 hz0 hbig
    go_enter Try.func11, Try.ntmps11
    go_wp2_with (first
      | (go_at_call 43; refine (awake_calls _).mono ?_; rintro e w2 ⟨rfl, hb⟩; have HB2 := Aside0.mk hb; clear hb)
      | (go_at_call 44; refine (disk_New.calls 0 z0 Ab cb bad _ _ _ _ _ _ _ _ (Kd.C_below HCB.out HB2.out) HCBL.out HNF.out).mono ?_; rintro e w3 ⟨v1, v2, v3, g, ⟨rfl, _, _, _, _, _, hb⟩⟩; have HB3 := Aside0.mk (below_step HB2.out hb); clear hb))
    go_ret
    exact ⟨rfl, HB3.out⟩
  by_cases hlow : z0 < 1
  · have hd3 : decide (z0 > 6) = false := decide_eq_false (by omega)
    have hd5 : decide (z0 < 1) = true := decide_eq_true hlow
    have HNF := Aside0.mk (show disk_New.f 0 z0 bad = some (false, [], [], [], false, 0, 22) by unfold disk_New.f; rw [if_pos hlow])
    clear hb10 hl30 hz0 hbig hlow
    go_enter Try.func11, Try.ntmps11
    go_wp2_with (first
      | (go_at_call 43; refine (awake_calls _).mono ?_; rintro e w2 ⟨rfl, hb⟩; have HB2 := Aside0.mk hb; clear hb)
      | (go_at_call 44; refine (disk_New.calls 0 z0 Ab cb bad _ _ _ _ _ _ _ _ (Kd.C_below HCB.out HB2.out) HCBL.out HNF.out).mono ?_; rintro e w3 ⟨v1, v2, v3, g, ⟨rfl, _, _, _, _, _, hb⟩⟩; have HB3 := Aside0.mk (below_step HB2.out hb); clear hb))
    go_ret
    exact ⟨rfl, HB3.out⟩
  by_cases h6 : z0 > 6
  · have hd3 : decide (z0 > 6) = true := decide_eq_true h6
    have hd4 : decide (z0 ≤ 256) = true := decide_eq_true (by omega)
    clear hb10 hl30 hz0 hbig hlow h6
    go_enter Try.func11, Try.ntmps11
    go_wp2_with (first
      | (go_at_call 43; refine (awake_calls _).mono ?_; rintro e w2 ⟨rfl, hb⟩; have HB2 := Aside0.mk hb; clear hb))
    go_ret
    exact ⟨rfl, HB2.out⟩
  have hd3 : decide (z0 > 6) = false := decide_eq_false h6
  have hd5 : decide (z0 < 1) = false := decide_eq_false hlow
  have hd6 : decide (z0 > 256) = false := decide_eq_false hbig
  obtain ⟨nb, hnb⟩ : ∃ nb : Nat, z0 = (nb : Int) := ⟨z0.toNat, by omega⟩
  have hnb1 : 1 ≤ nb := by omega
  have hnb6 : nb ≤ 6 := by omega
  obtain ⟨kn, hkn⟩ := New_ev nb bad hnb1 (by omega) (by omega)
  obtain ⟨kr, hkr⟩ := RNew_ev nb bad (by omega)
  rw [← hnb] at hkn hkr
  have HN := Aside0.mk hkn
  have HR := Aside0.mk hkr
  have HZN := Aside0.mk hnb
  have HNB := Aside0.mk (show nb ≤ 300 by omega)
  have HLEN := Aside0.mk (show l.length ≤ 30 by omega)
  have HBAD := Aside0.mk (show bad.length ≤ 10 by omega)
  clear hb10 hl30 hz0 hbig hlow h6 hnb hnb1 hnb6 hkn hkr
  go_enter Try.func11, Try.ntmps11
  go_wp2_with (first
    | (go_at_call 43; refine (awake_calls _).mono ?_; rintro e w2 ⟨rfl, hb⟩; have HB2 := Aside0.mk hb; clear hb)
    | (go_at_call 44; refine (disk_New.calls kn z0 Ab cb bad _ _ _ _ _ _ _ _ (Kd.C_below HCB.out HB2.out) HCBL.out HN.out).mono ?_; rintro e w3 ⟨bv0, bw0, dv0, g, ⟨rfl, hS, hW, hB, hblk, hg, hb⟩⟩; have HS1 := Aside0.mk (made hS hW.out.1 hB (hblk rfl) hg); have HB1 := Aside0.mk hb; clear hS hW hB hblk hg hb)
    | (go_at_call 51; refine (batonref21_New.calls kr z0 (fun k => k < w2.heap.size) Ab cb bad _ _ _ _ _ _ _ (Kd.V_mk HCBL.out (Kd.F_mono (Kd.F_below HFB.out (below_step HB2.out HB1.out)) (fun k hk => Nat.lt_of_lt_of_le hk HB2.out.size))) HR.out).mono ?_; rintro e w5 ⟨q0, q1, q2, rfl, h0, h1, h2, hb⟩; have hf0 := Kd.N_V (base' := 0) (Kd.S_N h0); have hf1 := Kd.N_V (base' := 0) (Kd.S_N h1); obtain ⟨D0, f0, e0⟩ := Kd.V_slice hf0; rw [List.length_replicate] at e0; subst e0; obtain ⟨D1, f1, rfl⟩ := Kd.V_slice hf1; obtain ⟨D2, f2, rfl⟩ := Kd.V_slice h2; have HV0 := Aside0.mk hf0; have HV1 := Aside0.mk hf1; have HV2 := Aside0.mk h2; have HS5 := Aside0.mk (HS1.out.below hb); have HB5 := Aside0.mk (HB1.out.trans (hb.mono HB1.out.size)); clear h0 h1 h2 hb hf0 hf1)
    | ((with_reducible refine gate_dst (N := 9) rfl ?_); refine L_alloc rfl 102 rfl (.agg #[.slice none 0 0, .slice none 0 0, .slice none 0 0, .bool false, .bool false, .int .i64 0]) 6 (by kernel_rfl) ?_; intro g9 w6 hb hg hs hl; have HK9 := Aside0.mk hb; have HG9 := Aside0.mk hg; have HB56 := Aside0.mk hl; have hz0 : w6.cell? ⟨g9, 0, none⟩ = some (.slice none 0 0) := (blk_cell HK9.out 0).trans rfl; have hzf0 : w6.frozen? ⟨g9, 0, none⟩ = false := blk_frozen HK9.out 0; have hz1 : w6.cell? ⟨g9, 1, none⟩ = some (.slice none 0 0) := (blk_cell HK9.out 1).trans rfl; have hzf1 : w6.frozen? ⟨g9, 1, none⟩ = false := blk_frozen HK9.out 1; have hz2 : w6.cell? ⟨g9, 2, none⟩ = some (.slice none 0 0) := (blk_cell HK9.out 2).trans rfl; have hzf2 : w6.frozen? ⟨g9, 2, none⟩ = false := blk_frozen HK9.out 2; have hz3 : w6.cell? ⟨g9, 3, none⟩ = some (.bool false) := (blk_cell HK9.out 3).trans rfl; have hzf3 : w6.frozen? ⟨g9, 3, none⟩ = false := blk_frozen HK9.out 3; have hz4 : w6.cell? ⟨g9, 4, none⟩ = some (.bool false) := (blk_cell HK9.out 4).trans rfl; have hzf4 : w6.frozen? ⟨g9, 4, none⟩ = false := blk_frozen HK9.out 4; have hz5 : w6.cell? ⟨g9, 5, none⟩ = some (.int .i64 0) := (blk_cell HK9.out 5).trans rfl; have hzf5 : w6.frozen? ⟨g9, 5, none⟩ = false := blk_frozen HK9.out 5; clear hb hg hs hl))
  have HTW := Aside0.mk (show Two w2.heap.size w3.heap.size g bv0 dv0 (.slice none 0 0) (List.replicate nb zeros) (([] : List S183).map toW) bad false (dl false 0) (fun k => k ≠ g9) (.slice D0 nb f0) (.slice D1 0 f1) (.slice D2 bad.length f2) (List.replicate nb zeros) [] w6 from by
    have hm := HS5.out.below HB56.out
    have hne : ∀ k, k < w5.heap.size → k ≠ g9 := fun k hk e => by have := HG9.out; omega
    have hmut : ∀ k, w3.heap.size ≤ k → ¬ Mut w2.heap.size w3.heap.size g dv0 (.slice none 0 0) k := fun k hk h => by have := HS1.out.mut_lt h; omega
    refine ⟨hm, ⟨Kd.V_mono (Kd.V_below (Kd.V_bound HV0.out) HB56.out) (fun k hk => ⟨hne k hk.2, hmut k hk.1⟩), Kd.V_mono (Kd.V_below (Kd.V_bound HV1.out) HB56.out) (fun k hk => ⟨hne k hk.2, hmut k hk.1⟩), Kd.V_mono (Kd.V_below (Kd.V_bound HV2.out) HB56.out) (fun k hk => ⟨hne k hk.2, ?_⟩)⟩, fun k hk e => by have := blk_lt HK9.out; omega⟩
    rcases hk.1.1 with h | h
    · intro hmu
      have hg := HS1.out.gB
      rcases hmu with rfl | h2 | h2
      · omega
      · have := h2.1; omega
      · simp [Value.ownBlock] at h2
    · exact hmut k h)
  have HFT := Aside0.mk (show Fit nb 0 (List.replicate nb zeros) [] bad 0 from ⟨⟨fun b hb => by obtain ⟨_, rfl⟩ := List.mem_replicate.1 hb; exact List.length_replicate, fun x hx => absurd hx (by simp)⟩, List.length_replicate, Nat.le_refl _, by decide, HBAD.out⟩)
  have HG93 := Aside0.mk (show w3.heap.size ≤ g9 from by have h1 := HG9.out; have h2 := HS5.out.gB.2.2; omega)
  have HL0 := Aside0.mk (show Lq g9 w2.heap.size w2 w3.heap.size g bv0 dv0 bad nb 0 (.slice none 0 0) (List.replicate nb zeros) [] false false 0 (.slice D0 nb f0) (.slice D1 0 f1) (.slice D2 bad.length f2) ((((((w6.setCell ⟨g9, 0, none⟩ (.slice D0 nb f0)).setCell ⟨g9, 1, none⟩ (.slice D1 0 f1)).setCell ⟨g9, 2, none⟩ (.slice D2 bad.length f2)).setCell ⟨g9, 3, none⟩ (.bool false)).setCell ⟨g9, 4, none⟩ (.bool false)).setCell ⟨g9, 5, none⟩ (.int .i64 0)) from
    ⟨HTW.out.box (fun h => h rfl) HG93.out HK9.out (fun j hj => set6_far hj _ _ _ _ _ _) (set6_size _ _ _ _ _ _ _ _), HFT.out, set6_blk HK9.out rfl _ _ _ _ _ _, set6_below (HB5.out.trans (HB56.out.mono (Nat.le_trans HB5.out.size (Nat.le_refl _)))) (show w2.heap.size ≤ g9 from Nat.le_trans HB1.out.size HG93.out) _ _ _ _ _ _⟩)
  generalize ((((((w6.setCell ⟨g9, 0, none⟩ (.slice D0 nb f0)).setCell ⟨g9, 1, none⟩ (.slice D1 0 f1)).setCell ⟨g9, 2, none⟩ (.slice D2 bad.length f2)).setCell ⟨g9, 3, none⟩ (.bool false)).setCell ⟨g9, 4, none⟩ (.bool false)).setCell ⟨g9, 5, none⟩ (.int .i64 0)) = w7 at HL0 ⊢
  have HG9M := Aside0.mk (show w3.heap.size ≤ g9 from HG93.out)
  clear HTW HFT HK9 HG9 HB56 HV0 HV1 HV2 HS5 HN HR hpt hpf hz0 hz1 hz2 hz3 hz4 hz5 hzf0 hzf1 hzf2 hzf3 hzf4 hzf5
  go_loopg [10] (l.length + 1) (fun kq v10 wr => ∃ (z : Int) (i : Nat), v10 = .int .i64 z ∧ Aside0 (z = (i : Int) ∧ i + kq = l.length + 1 ∧ i ≤ l.length) ∧ Aside0 (∃ wv bl ws down cut left v0 v1 v2, Lq g9 w2.heap.size w2 w3.heap.size g bv0 dv0 bad nb i wv bl ws down cut left v0 v1 v2 wr))
  case atStart => exact ⟨0, 0, rfl, ⟨rfl, by omega, by omega⟩, ⟨_, _, _, _, _, _, _, _, _, HL0.out⟩⟩
  case round =>
    obtain ⟨z, i, rfl, HK, HLQ⟩ := hrel
    obtain ⟨hz, hk, hil⟩ := HK.out
    obtain ⟨wv, bl, ws, down, cut, left, v0, v1, v2, hlq⟩ := HLQ.out
    obtain ⟨A0, c0, rfl⟩ := Kd.V_slice hlq.two.rf.b
    obtain ⟨A1, c1, rfl⟩ := Kd.V_slice hlq.two.rf.q
    obtain ⟨A2, c2, rfl⟩ := Kd.V_slice hlq.two.rf.d
    have HLD0 := Aside0.mk hlq
    have HBR := Aside0.mk (show Below w.heap.size w wr from HB2.out.trans (hlq.below.mono HB2.out.size))
    clear HL0 HLQ hlq
    cases gk with
    | zero => omega
    | succ k1 =>
      by_cases hi : i < l.length
      · have hib : decide (z < (l.length : Int)) = true := decide_eq_true (by omega)
        obtain ⟨adr, e1, Ax, cx, hcl, hCp, hcell⟩ := at_Op HC.out i hi
        cases e1
        have hwfx := HWF.out l[i] (List.getElem_mem hi)
        have hwr : wrap64 (z + 1) = ((i + 1 : Nat) : Int) := by have := HLEN.out; rw [w64 (by omega) (by omega)]; omega
        have HWR := Aside0.mk hwr
        have HI := Aside0.mk hi
        have HI100 := Aside0.mk (show i ≤ 100 by have := HLEN.out; omega)
        have p1 := eq_true (show (0 : Int) ≤ z by omega)
        have q1 := eq_true (show z < (l.length : Int) by omega)
        generalize l[i] = x at hcl hCp hcell hwfx
        have HX2 := Aside0.mk (bounds_i64 hwfx.2.1).2
        have HXW := Aside0.mk (show ∀ (j : Nat) (v : Value), (opC x Ax cx)[j]? = some v → w.cell? ((adr.add (z.toNat * 6)).add j) = some v from fun j v hv => by rw [add_add, show z.toNat = i by omega]; exact hcell j v hv)
        have HXB := Aside0.mk (fun (W : World) (hb : Below w2.heap.size w2 W) => cells_below HXW.out (HB2.out.trans (hb.mono HB2.out.size)))
        have HXD := Aside0.mk (fun (W : World) (hb : Below wr.heap.size wr W) => cells_below HXW.out (below_step HBR.out hb))
        have HXP := Aside0.mk (show Kd.F (Kd.int .i64) wr.drew (fun k => k < w2.heap.size) Ax x.2.2.2.2.2.length x.2.2.2.2.2 from Kd.F_drew (Kd.F_mono (Kd.F_below (F_in hCp) HBR.out) (fun k hk => Nat.lt_of_lt_of_le hk HB2.out.size)))
        have HXL := Aside0.mk hcl
        have HLD := Aside0.mk (HLD0.out.later (below_drew (Below.refl wr.heap.size wr)))
        have HKDB := Aside0.mk HLD.out.box
        have HNM := Aside0.mk (show ¬ Mut w2.heap.size w3.heap.size g dv0 wv g9 from fun h => by
          have hg := HLD0.out.two.st.gB
          have h9 := HG9M.out
          rcases h with h | h | h
          · omega
          · have := h.2.1; omega
          · exact Kd.R_ne HLD0.out.two.st.waits HLD0.out.box (by decide) h)
        have hx5 := (op_cells (HXD.out wr (Below.refl _ _))).2.2
        by_cases h40 : x.2.2.2.2.2.length > 40
        · have hd40 : decide ((x.2.2.2.2.2.length : Int) > 40) = true := decide_eq_true (by omega)
          clear hcl hCp hcell hwfx hwr hz hk hil hi h40
          go_wp2
          go_ret
          exact ⟨rfl, HBR.out⟩
        · have hd40 : decide ((x.2.2.2.2.2.length : Int) > 40) = false := decide_eq_false (by omega)
          clear hcl hCp hcell hwfx hwr hz hk hil hi h40
          go_wp2
          clear hx5
          refine start_ (n := 12) (S := fun w' => (∀ (j : Nat) (v : Value), ([.slice A0 bl.length c0, .slice A1 ws.length c1, .slice A2 bad.length c2, .bool down, .bool cut, .int .i64 left] : List Value)[j]? = some v → w'.cell? ((⟨g9, 0, none⟩ : Addr).add j) = some v) ∧ (∀ (j : Nat) (v : Value), (opC x Ax cx)[j]? = some v → w'.cell? ((adr.add (z.toNat * 6)).add j) = some v)) (ds := [10]) #[false, false, false, false, false, false, false, false, false, false, false, false] (by kernel_rfl) rfl rfl ⟨cells_of_blk (cs := ([.slice A0 bl.length c0, .slice A1 ws.length c1, .slice A2 bad.length c2, .bool down, .bool cut, .int .i64 left] : List Value)) HKDB.out, HXD.out wr.drew (below_drew (Below.refl _ _))⟩ (fun hHeld => ?_); refine with_tabW Dw1711_17.tab Dw1711_17.bits (fun HT_ HW_ => ?_)
          refine pure_ (i := 0) (N := some 73) (v := ?_) (a' := ?_) #[true, false, false, false, false, false, false, false, false, false, false, false] rfl rfl (any_of HT_.out (by kernel_rfl)) (fun _ _ _ h => h) (Or.inl ⟨by rfl, ?_⟩) ?_ ?_
          rotate_left
          · intro w'
            go_simp
            with_reducible rfl
          rotate_left
          · simp only [Act.put, List.setIfInBounds_toArray, List.set_cons_zero, List.set_cons_succ, i64_w, i32_w]
            rfl
          refine pure_ (i := 2) (N := some 75) (v := ?_) (a' := ?_) #[true, false, true, false, false, false, false, false, false, false, false, false] rfl rfl (any_of HT_.out (by kernel_rfl)) (fun _ _ _ h => h) (Or.inl ⟨by rfl, ?_⟩) ?_ ?_
          rotate_left
          · intro w'
            go_simp
            with_reducible rfl
          rotate_left
          · simp only [Act.put, List.setIfInBounds_toArray, List.set_cons_zero, List.set_cons_succ, i64_w, i32_w]
            rfl
          refine pure_ (i := 3) (N := some 76) (v := ?_) (a' := ?_) #[true, false, true, true, false, false, false, false, false, false, false, false] rfl rfl (any_of HT_.out (by kernel_rfl)) (fun _ _ _ h => h) (Or.inl ⟨by rfl, ?_⟩) ?_ ?_
          rotate_left
          · intro w'
            go_simp
            with_reducible rfl
          rotate_left
          · simp only [Act.put, List.setIfInBounds_toArray, List.set_cons_zero, List.set_cons_succ, i64_w, i32_w]
            rfl
          refine pure_ (i := 4) (N := some 77) (v := ?_) (a' := ?_) #[true, false, true, true, true, false, false, false, false, false, false, false] rfl rfl (any_of HT_.out (by kernel_rfl)) (fun _ _ _ h => h) (Or.inl ⟨by rfl, ?_⟩) ?_ ?_
          rotate_left
          · intro w'
            go_simp
            with_reducible rfl
          rotate_left
          · simp only [Act.put, List.setIfInBounds_toArray, List.set_cons_zero, List.set_cons_succ, i64_w, i32_w]
            rfl
          refine take_ (i := 1) (N := some 74) (v := .agg ([.slice A0 bl.length c0, .slice A1 ws.length c1, .slice A2 bad.length c2, .bool down, .bool cut, .int .i64 left] : List Value).toArray) #[true, true, true, true, true, false, false, false, false, false, false, false] rfl rfl (take_ofW HT_.out HW_.out (by kernel_rfl)) (fun _ _ _ h => h) (Or.inl ⟨by rfl, fun w' s0 => run_load_list 102 (.tmp 9) rfl ⟨g9, 0, none⟩ rfl ([.slice A0 bl.length c0, .slice A1 ws.length c1, .slice A2 bad.length c2, .bool down, .bool cut, .int .i64 left] : List Value) _ s0.1 Try.underlying102 rfl (by kernel_rfl)⟩) hHeld rfl ?_
          refine norm_ (a' := ?_) ?_ ?_
          rotate_left
          · show Act.put _ (some 74) _ = _
            simp only [Act.put, List.setIfInBounds_toArray, List.set_cons_zero, List.set_cons_succ, i64_w, i32_w]
            rfl
          refine take_ (i := 5) (N := some 78) (v := .agg (opC x Ax cx).toArray) #[true, true, true, true, true, true, false, false, false, false, false, false] rfl rfl (take_ofW HT_.out HW_.out (by kernel_rfl)) (fun _ _ _ h => h) (Or.inl ⟨by rfl, fun w' s0 => run_load_list 88 (.tmp 77) rfl (adr.add (z.toNat * 6)) rfl (opC x Ax cx) _ s0.2 Try.underlying88 rfl (by kernel_rfl)⟩) hHeld rfl ?_
          refine norm_ (a' := ?_) ?_ ?_
          rotate_left
          · show Act.put _ (some 78) _ = _
            simp only [Act.put, List.setIfInBounds_toArray, List.set_cons_zero, List.set_cons_succ, i64_w, i32_w]
            rfl
          refine one_ (i := 6) (N := some 79) #[true, true, true, true, true, true, true, false, false, false, false, false] rfl rfl (one_of HT_.out (by kernel_rfl)) (by decide) (fun Kq hKq => ?_)
          refine goes_ Try.func52 (by kernel_rfl) rfl #[.pointer (some ⟨g, 0, none⟩), .agg ([.slice A0 bl.length c0, .slice A1 ws.length c1, .slice A2 bad.length c2, .bool down, .bool cut, .int .i64 left] : List Value).toArray, .agg (opC x Ax cx).toArray] (by rfl) rfl rfl (by (try simp only [List.map_toArray, List.map_cons, List.map_nil]); first | done | rfl) ?_
          refine (Do_calls HLD.out.two HLD.out.fit HI100.out HNB.out x Ax cx HX2.out HXP.out HXL.out).mono ?_
          rintro e w6 ⟨u0, u1, u2, wv2, bl2, ws2, down2, cut2, left2, rfl, ht, hfi, hbl, hkp⟩
          obtain ⟨E0, d0, rfl⟩ := Kd.V_slice ht.rf.b
          obtain ⟨E1, d1, rfl⟩ := Kd.V_slice ht.rf.q
          obtain ⟨E2, d2, rfl⟩ := Kd.V_slice ht.rf.d
          have HT6 := Aside0.mk ht
          have HF6 := Aside0.mk hfi
          have HB6 := Aside0.mk (HLD.out.below.trans hbl)
          have hk96 := blk_kept HLD.out.box hkp HNM.out
          have HK96 := Aside0.mk hk96
          have HXD6 := Aside0.mk (show ∀ (j : Nat) (v : Value), (opC x Ax cx)[j]? = some v → w6.cell? ((adr.add (z.toNat * 6)).add j) = some v from HXB.out w6 HB6.out)
          have hc0 : w6.cell? ⟨g9, 0, none⟩ = some (.slice A0 bl.length c0) := (blk_cell hk96 0).trans rfl
          have hcf0 : w6.frozen? ⟨g9, 0, none⟩ = false := blk_frozen hk96 0
          have hc1 : w6.cell? ⟨g9, 1, none⟩ = some (.slice A1 ws.length c1) := (blk_cell hk96 1).trans rfl
          have hcf1 : w6.frozen? ⟨g9, 1, none⟩ = false := blk_frozen hk96 1
          have hc2 : w6.cell? ⟨g9, 2, none⟩ = some (.slice A2 bad.length c2) := (blk_cell hk96 2).trans rfl
          have hcf2 : w6.frozen? ⟨g9, 2, none⟩ = false := blk_frozen hk96 2
          have hc3 : w6.cell? ⟨g9, 3, none⟩ = some (.bool down) := (blk_cell hk96 3).trans rfl
          have hcf3 : w6.frozen? ⟨g9, 3, none⟩ = false := blk_frozen hk96 3
          have hc4 : w6.cell? ⟨g9, 4, none⟩ = some (.bool cut) := (blk_cell hk96 4).trans rfl
          have hcf4 : w6.frozen? ⟨g9, 4, none⟩ = false := blk_frozen hk96 4
          have hc5 : w6.cell? ⟨g9, 5, none⟩ = some (.int .i64 left) := (blk_cell hk96 5).trans rfl
          have hcf5 : w6.frozen? ⟨g9, 5, none⟩ = false := blk_frozen hk96 5
          clear ht hfi hbl hkp hk96
          refine ⟨.tuple #[.agg #[.slice E0 bl2.length d0, .slice E1 ws2.length d1, .slice E2 bad.length d2, .bool down2, .bool cut2, .int .i64 left2], .bool true], rfl, ?_⟩
          refine hKq.out _ _ ⟨cells_of_blk (cs := ([.slice A0 bl.length c0, .slice A1 ws.length c1, .slice A2 bad.length c2, .bool down, .bool cut, .int .i64 left] : List Value)) HK96.out, HXD6.out⟩ (fun hHeld => ?_)
          clear hKq Kq
          refine norm_ (a' := ?_) ?_ ?_
          rotate_left
          · show Act.put _ (some 79) _ = _
            simp only [Act.put, List.setIfInBounds_toArray, List.set_cons_zero, List.set_cons_succ, i64_w, i32_w]
            rfl
          refine pure_ (i := 7) (N := some 72) (v := ?_) (a' := ?_) #[true, true, true, true, true, true, true, true, false, false, false, false] rfl rfl (any_of HT_.out (by kernel_rfl)) (fun _ _ _ h => h) (Or.inl ⟨by rfl, ?_⟩) ?_ ?_
          rotate_left
          · intro w'
            go_simp
            with_reducible rfl
          rotate_left
          · simp only [Act.put, List.setIfInBounds_toArray, List.set_cons_zero, List.set_cons_succ, i64_w, i32_w]
            rfl
          refine pure_ (i := 8) (N := some 80) (v := ?_) (a' := ?_) #[true, true, true, true, true, true, true, true, true, false, false, false] rfl rfl (any_of HT_.out (by kernel_rfl)) (fun _ _ _ h => h) (Or.inl ⟨by rfl, ?_⟩) ?_ ?_
          rotate_left
          · intro w'
            go_simp
            with_reducible rfl
          rotate_left
          · simp only [Act.put, List.setIfInBounds_toArray, List.set_cons_zero, List.set_cons_succ, i64_w, i32_w]
            rfl
          refine pure_ (i := 9) (N := some 81) (v := ?_) (a' := ?_) #[true, true, true, true, true, true, true, true, true, true, false, false] rfl rfl (any_of HT_.out (by kernel_rfl)) (fun _ _ _ h => h) (Or.inl ⟨by rfl, ?_⟩) ?_ ?_
          rotate_left
          · intro w'
            go_simp
            with_reducible rfl
          rotate_left
          · simp only [Act.put, List.setIfInBounds_toArray, List.set_cons_zero, List.set_cons_succ, i64_w, i32_w]
            rfl
          refine last_ (i := 10) (N := none) #[true, true, true, true, true, true, true, true, true, true, true, false] rfl rfl (one_of HT_.out (by kernel_rfl)) (by decide) (fun Kq hKq => ?_)
          refine skip_ (w1 := ?_) (by rfl) rfl ?_ ?_
          rotate_left
          · go_simp
            rfl
          refine hKq.out _ _ ?_
          clear hKq Kq
          refine pure_ (i := 11) (N := some 11) (v := ?_) (a' := ?_) #[true, true, true, true, true, true, true, true, true, true, true, true] rfl rfl (any_of HT_.out (by kernel_rfl)) (fun _ _ _ h => h) (Or.inl ⟨by rfl, ?_⟩) ?_ ?_
          rotate_left
          · intro w'
            go_simp
            with_reducible rfl
          rotate_left
          · simp only [Act.put, List.setIfInBounds_toArray, List.set_cons_zero, List.set_cons_succ, i64_w, i32_w]
            rfl
          refine done_ (done_of HT_.out (by kernel_rfl)) ?_
          have HL8 := Aside0.mk (show Lq g9 w2.heap.size w2 w3.heap.size g bv0 dv0 bad nb (i + 1) wv2 bl2 ws2 down2 cut2 left2 (.slice E0 bl2.length d0) (.slice E1 ws2.length d1) (.slice E2 bad.length d2) ((((((w6.setCell ⟨g9, 0, none⟩ (.slice E0 bl2.length d0)).setCell ⟨g9, 1, none⟩ (.slice E1 ws2.length d1)).setCell ⟨g9, 2, none⟩ (.slice E2 bad.length d2)).setCell ⟨g9, 3, none⟩ (.bool down2)).setCell ⟨g9, 4, none⟩ (.bool cut2)).setCell ⟨g9, 5, none⟩ (.int .i64 left2)) from
            ⟨HT6.out.box (fun h => h rfl) HG9M.out HK96.out (fun j hj => set6_far hj _ _ _ _ _ _) (set6_size _ _ _ _ _ _ _ _), HF6.out, set6_blk HK96.out rfl _ _ _ _ _ _, set6_below HB6.out (show w2.heap.size ≤ g9 from Nat.le_trans HB1.out.size HG9M.out) _ _ _ _ _ _⟩)
          generalize ((((((w6.setCell ⟨g9, 0, none⟩ (.slice E0 bl2.length d0)).setCell ⟨g9, 1, none⟩ (.slice E1 ws2.length d1)).setCell ⟨g9, 2, none⟩ (.slice E2 bad.length d2)).setCell ⟨g9, 3, none⟩ (.bool down2)).setCell ⟨g9, 4, none⟩ (.bool cut2)).setCell ⟨g9, 5, none⟩ (.int .i64 left2)) = w8 at HL8 ⊢
          have hbx := HL8.out.box
          have he0 : w8.cell? ⟨g9, 0, none⟩ = some (.slice E0 bl2.length d0) := (blk_cell hbx 0).trans rfl
          have he1 : w8.cell? ⟨g9, 1, none⟩ = some (.slice E1 ws2.length d1) := (blk_cell hbx 1).trans rfl
          have he2 : w8.cell? ⟨g9, 2, none⟩ = some (.slice E2 bad.length d2) := (blk_cell hbx 2).trans rfl
          have he3 : w8.cell? ⟨g9, 3, none⟩ = some (.bool down2) := (blk_cell hbx 3).trans rfl
          have he4 : w8.cell? ⟨g9, 4, none⟩ = some (.bool cut2) := (blk_cell hbx 4).trans rfl
          have he5 : w8.cell? ⟨g9, 5, none⟩ = some (.int .i64 left2) := (blk_cell hbx 5).trans rfl
          clear hbx hc0 hc1 hc2 hc3 hc4 hc5 hcf0 hcf1 hcf2 hcf3 hcf4 hcf5 HT6 HF6 HB6 HK96 HXD6 HXB HXD HXP HXL HXW HLD HLD0 HKDB HNM
          go_wp2_with (first
            | (go_at_call 53; refine (Shows_calls HL8.out.two HL8.out.fit (by have := HI.out; have := HLEN.out; omega) HNB.out).mono ?_; rintro e w9 ⟨rfl, hb⟩; have HL9 := Aside0.mk (HL8.out.later hb); clear hb))
          go_roundg k1
          case measure => have := HK.out.2.1; omega
          case rel => exact ⟨wrap64 (z + 1), i + 1, rfl, ⟨HWR.out, by have := HK.out.2.1; omega, by have := HI.out; omega⟩, ⟨_, _, _, _, _, _, _, _, _, HL9.out⟩⟩
      · have hib : decide (z < (l.length : Int)) = false := decide_eq_false (by omega)
        have hno : ¬ (0 ≤ z0 ∧ z0 < (bl.length : Int)) := by have := HLD0.out.fit.len; have := HZN.out; omega
        have hnm : ¬ (0 ≤ (-1 : Int) ∧ (-1 : Int) < (bl.length : Int)) := by omega
        have HNO := Aside0.mk hno
        have HNM1 := Aside0.mk hnm
        clear hz hk hil hi hno hnm
        cases hd : down with
        | true =>
          subst hd
          go_wp2_with (first
            | (go_at_call 54; refine (HLD0.out.two.st.Read_down rfl z0).mono ?_; rintro e w5 ⟨rfl, hb⟩; have HL5 := Aside0.mk (HLD0.out.later hb); clear hb)
            | (go_at_call 50; have _t := HL6.out; clear _t; refine (HL6.out.two.st.Lies_none (-1) HNM1.out).mono ?_; rintro e w7 ⟨rfl, hb⟩; have HL7 := Aside0.mk (HL6.out.later hb); have hx9 : w7.cell? ⟨g9, 3, none⟩ = some (.bool true) := (blk_cell HL7.out.box 3).trans rfl; clear hb)
            | (go_at_call 50; refine (HL5.out.two.st.Lies_none z0 HNO.out).mono ?_; rintro e w6 ⟨rfl, hb⟩; have HL6 := Aside0.mk (HL5.out.later hb); clear hb))
          go_ret
          exact ⟨rfl, HB2.out.trans (HL7.out.below.mono HB2.out.size)⟩
        | false =>
          subst hd
          go_wp2_with (first
            | (go_at_call 54; refine (HLD0.out.two.st.Read_none rfl z0 HNO.out).mono ?_; rintro e w5 ⟨rfl, hb⟩; have HL5 := Aside0.mk (HLD0.out.later hb); clear hb)
            | (go_at_call 50; have _t := HL6.out; clear _t; refine (HL6.out.two.st.Lies_none (-1) HNM1.out).mono ?_; rintro e w7 ⟨rfl, hb⟩; have HL7 := Aside0.mk (HL6.out.later hb); have hx9 : w7.cell? ⟨g9, 3, none⟩ = some (.bool false) := (blk_cell HL7.out.box 3).trans rfl; clear hb)
            | (go_at_call 50; refine (HL5.out.two.st.Lies_none z0 HNO.out).mono ?_; rintro e w6 ⟨rfl, hb⟩; have HL6 := Aside0.mk (HL5.out.later hb); clear hb))
          go_ret
          exact ⟨rfl, HB2.out.trans (HL7.out.below.mono HB2.out.size)⟩

end Go.Proofs.Ytdbfclfglpbpmaa.Dsk
