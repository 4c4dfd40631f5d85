/- An op at the disk and at the document's: every kind. No condition. -/
import Derived.Test.YtdbfclfglpbpmaaDskT
namespace Go.Proofs.Ytdbfclfglpbpmaa.Dsk
open Go.AnyFacts Go.Proofs.Ytdbfclfglpbpmaa.Sha Go.RowKit Go.Proofs.YtdbfclfglpbpmaaW.Hand Go.Proofs.YtdbfclfglpbpmaaW.PrintWords Go.Proofs.YtdbfclfglpbpmaaW.PrintLast Go.Proofs.YtdbfclfglpbpmaaW.PrintMore Go.Proofs.Ytdbfclfglpbpmaa.PF21 Go.Proofs.Ytdbfclfglpbpmaa.Base Go.Proofs.Ytdbfclfglpbpmaa.LF21
attribute [local go_sem] max2_int min2_int max_two min_two max_three min_three max_four min_four
set_option linter.unusedVariables false
set_option linter.unusedSimpArgs false
set_option maxHeartbeats 8000000 in
set_option maxRecDepth 100000 in
theorem Do_cut {Q : Nat → Prop} {B M0 g nb i : Nat} {bv dv wv v0 v1 v2 : Value} {bl : List (List Int)} {ws : List S183} {bad : List Int} {down cut : Bool} {left : Int} {w : World} (t : Two B M0 g bv dv wv bl (ws.map toW) bad down (dl cut left) Q v0 v1 v2 bl ws w) (fi : Fit nb i bl ws bad left) (hi : i ≤ 100) (hnb : nb ≤ 300) (x : DOp) (Ax : Option Addr) (cx : Nat) (hk : x.1 = 2) (hx2 : x.2.1 ≤ 9223372036854775807) : Calls Try.prog 52 #[.pointer (some ⟨g, 0, none⟩), .agg (stC v0 v1 v2 down cut left), .agg (opC x Ax cx).toArray] w (DoPost B M0 g bv dv wv bad nb (i + 1) Q w) := by
  have HFI2 := Aside0.mk (fi.cutn x.2.1 hx2)
  have hk0 : (x.1 == 0) = false := by rw [hk]; rfl
  have hk1 : (x.1 == 1) = false := by rw [hk]; rfl
  have hk2 : (x.1 == 2) = true := by rw [hk]; rfl
  obtain ⟨A0, c0, rfl⟩ := Kd.V_slice t.rf.b
  obtain ⟨A1, c1, rfl⟩ := Kd.V_slice t.rf.q
  obtain ⟨A2, c2, rfl⟩ := Kd.V_slice t.rf.d
  have HT := Aside0.mk t
  have HFI := Aside0.mk fi
  have HM := Aside0.mk t.st.gB.2.2
  have HBW := Aside0.mk (show B ≤ w.heap.size from by have := t.st.gB; omega)
  have HI100 := Aside0.mk hi
  have HNB := Aside0.mk hnb
  clear t fi hi hnb
  clear hk hx2
  go_enter Try.func52, Try.ntmps52
  go_wp2_with (first
    | ((with_reducible refine gate_dst (N := 4) rfl ?_); refine L_box rfl 102 (.tmp 1) rfl (.agg #[.slice A0 bl.length c0, .slice A1 ws.length c1, .slice A2 bad.length c2, .bool down, .bool cut, .int .i64 left]) rfl ?_; intro g4 w1 hb hg hs hl; have HKg4 := Aside0.mk hb; have HGg4 := Aside0.mk hg; have HLg4 := Aside0.mk hl; clear hb hg hs hl)
    | ((with_reducible refine gate_dst (N := 5) rfl ?_); refine L_box rfl 88 (.tmp 2) rfl (.agg #[.int .i64 x.1, .int .i64 x.2.1, .int .u8 x.2.2.1, .int .u8 x.2.2.2.1, .bool x.2.2.2.2.1, .slice Ax x.2.2.2.2.2.length cx]) rfl ?_; intro g5 w2 hb hg hs hl; have HKg5 := Aside0.mk hb; have HGg5 := Aside0.mk hg; have HLg5 := Aside0.mk hl; clear hb hg hs hl)
    | ((with_reducible refine gate_dst (N := 6) rfl ?_); refine L_alloc rfl 102 rfl (.agg #[.slice none 0 0, .slice none 0 0, .slice none 0 0, .bool false, .bool false, .int .i64 0]) 6 (by kernel_rfl) ?_; intro g6 w3 hb hg hs hl; have HKg6 := Aside0.mk hb; have HGg6 := Aside0.mk hg; have HLg6 := Aside0.mk hl; clear hb hg hs hl; have HB3 := Aside0.mk (below_step (below_step HLg4.out HLg5.out) HLg6.out); have HK43 := Aside0.mk (blk_below (blk_below HKg4.out HLg5.out) HLg6.out); have HK53 := Aside0.mk (blk_below HKg5.out HLg6.out); have HGS := Aside0.mk (show w.heap.size ≤ g4 ∧ w.heap.size ≤ g5 ∧ w.heap.size ≤ g6 ∧ g4 < g5 ∧ g5 < g6 ∧ g6 < w3.heap.size from by have h1 := HGg4.out; have h2 := HGg5.out; have h3 := HGg6.out; have h4 := blk_lt HKg4.out; have h5 := blk_lt HKg5.out; have h6 := blk_lt HKg6.out; omega); have hne1 : g4 ≠ g6 := (by have := HGS.out; omega); have hne2 : g6 ≠ g4 := (fun e => hne1 e.symm); have HNE := Aside0.mk hne2; have HT3 := Aside0.mk (HT.out.inn (N1 := w3.heap.size) HB3.out (Nat.le_refl _)); have hc0 : w3.cell? ⟨g4, 0, none⟩ = some (.slice A0 bl.length c0) := (blk_cell HK43.out 0).trans rfl; have hcf0 : w3.frozen? ⟨g4, 0, none⟩ = false := blk_frozen HK43.out 0; have hc1 : w3.cell? ⟨g4, 1, none⟩ = some (.slice A1 ws.length c1) := (blk_cell HK43.out 1).trans rfl; have hcf1 : w3.frozen? ⟨g4, 1, none⟩ = false := blk_frozen HK43.out 1; have hc2 : w3.cell? ⟨g4, 2, none⟩ = some (.slice A2 bad.length c2) := (blk_cell HK43.out 2).trans rfl; have hcf2 : w3.frozen? ⟨g4, 2, none⟩ = false := blk_frozen HK43.out 2; have hc3 : w3.cell? ⟨g4, 3, none⟩ = some (.bool down) := (blk_cell HK43.out 3).trans rfl; have hcf3 : w3.frozen? ⟨g4, 3, none⟩ = false := blk_frozen HK43.out 3; have hc4 : w3.cell? ⟨g4, 4, none⟩ = some (.bool cut) := (blk_cell HK43.out 4).trans rfl; have hcf4 : w3.frozen? ⟨g4, 4, none⟩ = false := blk_frozen HK43.out 4; have hc5 : w3.cell? ⟨g4, 5, none⟩ = some (.int .i64 left) := (blk_cell HK43.out 5).trans rfl; have hcf5 : w3.frozen? ⟨g4, 5, none⟩ = false := blk_frozen HK43.out 5; have ho0 : w3.cell? ⟨g5, 0, none⟩ = some (.int .i64 x.1) := (blk_cell HK53.out 0).trans rfl; have ho1 : w3.cell? ⟨g5, 1, none⟩ = some (.int .i64 x.2.1) := (blk_cell HK53.out 1).trans rfl; have ho2 : w3.cell? ⟨g5, 2, none⟩ = some (.int .u8 x.2.2.1) := (blk_cell HK53.out 2).trans rfl; have ho3 : w3.cell? ⟨g5, 3, none⟩ = some (.int .u8 x.2.2.2.1) := (blk_cell HK53.out 3).trans rfl; have ho4 : w3.cell? ⟨g5, 4, none⟩ = some (.bool x.2.2.2.2.1) := (blk_cell HK53.out 4).trans rfl; have ho5 : w3.cell? ⟨g5, 5, none⟩ = some (.slice Ax x.2.2.2.2.2.length cx) := (blk_cell HK53.out 5).trans rfl; have hz0 : w3.cell? ⟨g6, 0, none⟩ = some (.slice none 0 0) := (blk_cell HKg6.out 0).trans rfl; have hzf0 : w3.frozen? ⟨g6, 0, none⟩ = false := blk_frozen HKg6.out 0; have hz1 : w3.cell? ⟨g6, 1, none⟩ = some (.slice none 0 0) := (blk_cell HKg6.out 1).trans rfl; have hzf1 : w3.frozen? ⟨g6, 1, none⟩ = false := blk_frozen HKg6.out 1; have hz2 : w3.cell? ⟨g6, 2, none⟩ = some (.slice none 0 0) := (blk_cell HKg6.out 2).trans rfl; have hzf2 : w3.frozen? ⟨g6, 2, none⟩ = false := blk_frozen HKg6.out 2; have hz3 : w3.cell? ⟨g6, 3, none⟩ = some (.bool false) := (blk_cell HKg6.out 3).trans rfl; have hzf3 : w3.frozen? ⟨g6, 3, none⟩ = false := blk_frozen HKg6.out 3; have hz4 : w3.cell? ⟨g6, 4, none⟩ = some (.bool false) := (blk_cell HKg6.out 4).trans rfl; have hzf4 : w3.frozen? ⟨g6, 4, none⟩ = false := blk_frozen HKg6.out 4; have hz5 : w3.cell? ⟨g6, 5, none⟩ = some (.int .i64 0) := (blk_cell HKg6.out 5).trans rfl; have hzf5 : w3.frozen? ⟨g6, 5, none⟩ = false := blk_frozen HKg6.out 5)
    | (go_at_call 48; refine (HT3.out.st.Cut x.2.1).mono ?_; rintro e w6 ⟨rfl, h1, h2⟩; have h3 := Nx.refl wv w3; have HT6 := Aside0.mk (HT3.out.dstep h1 h2 h3); have HMG := Aside0.mk (fun (k : Nat) (h : w.heap.size ≤ k) (hm : Mut B M0 g dv wv k) => (show False by have := HT.out.st.mut_lt hm; omega)); have HK46 := Aside0.mk (blk_kept HK43.out h2.kept (HMG.out g4 HGS.out.1)); have HK56 := Aside0.mk (blk_kept HK53.out h2.kept (HMG.out g5 HGS.out.2.1)); have HK66 := Aside0.mk (blk_kept HKg6.out h2.kept (HMG.out g6 HGS.out.2.2.1)); have HS6 := Aside0.mk h2; clear hc0 hcf0 hz0 hzf0 ho0 hc1 hcf1 hz1 hzf1 ho1 hc2 hcf2 hz2 hzf2 ho2 hc3 hcf3 hz3 hzf3 ho3 hc4 hcf4 hz4 hzf4 ho4 hc5 hcf5 hz5 hzf5 ho5; have hc0 : w6.cell? ⟨g4, 0, none⟩ = some (.slice A0 bl.length c0) := (blk_cell HK46.out 0).trans rfl; have hcf0 : w6.frozen? ⟨g4, 0, none⟩ = false := blk_frozen HK46.out 0; have hc1 : w6.cell? ⟨g4, 1, none⟩ = some (.slice A1 ws.length c1) := (blk_cell HK46.out 1).trans rfl; have hcf1 : w6.frozen? ⟨g4, 1, none⟩ = false := blk_frozen HK46.out 1; have hc2 : w6.cell? ⟨g4, 2, none⟩ = some (.slice A2 bad.length c2) := (blk_cell HK46.out 2).trans rfl; have hcf2 : w6.frozen? ⟨g4, 2, none⟩ = false := blk_frozen HK46.out 2; have hc3 : w6.cell? ⟨g4, 3, none⟩ = some (.bool down) := (blk_cell HK46.out 3).trans rfl; have hcf3 : w6.frozen? ⟨g4, 3, none⟩ = false := blk_frozen HK46.out 3; have hc4 : w6.cell? ⟨g4, 4, none⟩ = some (.bool cut) := (blk_cell HK46.out 4).trans rfl; have hcf4 : w6.frozen? ⟨g4, 4, none⟩ = false := blk_frozen HK46.out 4; have hc5 : w6.cell? ⟨g4, 5, none⟩ = some (.int .i64 left) := (blk_cell HK46.out 5).trans rfl; have hcf5 : w6.frozen? ⟨g4, 5, none⟩ = false := blk_frozen HK46.out 5; have ho0 : w6.cell? ⟨g5, 0, none⟩ = some (.int .i64 x.1) := (blk_cell HK56.out 0).trans rfl; have ho1 : w6.cell? ⟨g5, 1, none⟩ = some (.int .i64 x.2.1) := (blk_cell HK56.out 1).trans rfl; have ho2 : w6.cell? ⟨g5, 2, none⟩ = some (.int .u8 x.2.2.1) := (blk_cell HK56.out 2).trans rfl; have ho3 : w6.cell? ⟨g5, 3, none⟩ = some (.int .u8 x.2.2.2.1) := (blk_cell HK56.out 3).trans rfl; have ho4 : w6.cell? ⟨g5, 4, none⟩ = some (.bool x.2.2.2.2.1) := (blk_cell HK56.out 4).trans rfl; have ho5 : w6.cell? ⟨g5, 5, none⟩ = some (.slice Ax x.2.2.2.2.2.length cx) := (blk_cell HK56.out 5).trans rfl; have hz0 : w6.cell? ⟨g6, 0, none⟩ = some (.slice none 0 0) := (blk_cell HK66.out 0).trans rfl; have hzf0 : w6.frozen? ⟨g6, 0, none⟩ = false := blk_frozen HK66.out 0; have hz1 : w6.cell? ⟨g6, 1, none⟩ = some (.slice none 0 0) := (blk_cell HK66.out 1).trans rfl; have hzf1 : w6.frozen? ⟨g6, 1, none⟩ = false := blk_frozen HK66.out 1; have hz2 : w6.cell? ⟨g6, 2, none⟩ = some (.slice none 0 0) := (blk_cell HK66.out 2).trans rfl; have hzf2 : w6.frozen? ⟨g6, 2, none⟩ = false := blk_frozen HK66.out 2; have hz3 : w6.cell? ⟨g6, 3, none⟩ = some (.bool false) := (blk_cell HK66.out 3).trans rfl; have hzf3 : w6.frozen? ⟨g6, 3, none⟩ = false := blk_frozen HK66.out 3; have hz4 : w6.cell? ⟨g6, 4, none⟩ = some (.bool false) := (blk_cell HK66.out 4).trans rfl; have hzf4 : w6.frozen? ⟨g6, 4, none⟩ = false := blk_frozen HK66.out 4; have hz5 : w6.cell? ⟨g6, 5, none⟩ = some (.int .i64 0) := (blk_cell HK66.out 5).trans rfl; have hzf5 : w6.frozen? ⟨g6, 5, none⟩ = false := blk_frozen HK66.out 5; clear h1 h2 h3)
    | (go_at_call 82; refine (HT6.out.rf.Cut x.2.1).mono ?_; rintro e w8 ⟨q0, q1, q2, rfl, hs, hb0⟩; obtain ⟨D0, f0, D1, f1, D2, f2, ev, ht, hb⟩ := HT6.out.rstep (⟨q0, q1, q2, rfl, hs, hb0⟩ : RPost _ w6 bl ws bad down true (mx x.2.1 0) _ w8); rw [ev]; clear hs hb0 ev; have HT8 := Aside0.mk ht; have HB8 := Aside0.mk hb; have HK48 := Aside0.mk (blk_below HK46.out hb); have HK68 := Aside0.mk (blk_below HK66.out hb); have hb8 := hb; clear ht hb; clear hc0 hcf0 hz0 hzf0 ho0 hc1 hcf1 hz1 hzf1 ho1 hc2 hcf2 hz2 hzf2 ho2 hc3 hcf3 hz3 hzf3 ho3 hc4 hcf4 hz4 hzf4 ho4 hc5 hcf5 hz5 hzf5 ho5; have hc0 : w8.cell? ⟨g4, 0, none⟩ = some (.slice A0 bl.length c0) := (blk_cell HK48.out 0).trans rfl; have hcf0 : w8.frozen? ⟨g4, 0, none⟩ = false := blk_frozen HK48.out 0; have hc1 : w8.cell? ⟨g4, 1, none⟩ = some (.slice A1 ws.length c1) := (blk_cell HK48.out 1).trans rfl; have hcf1 : w8.frozen? ⟨g4, 1, none⟩ = false := blk_frozen HK48.out 1; have hc2 : w8.cell? ⟨g4, 2, none⟩ = some (.slice A2 bad.length c2) := (blk_cell HK48.out 2).trans rfl; have hcf2 : w8.frozen? ⟨g4, 2, none⟩ = false := blk_frozen HK48.out 2; have hc3 : w8.cell? ⟨g4, 3, none⟩ = some (.bool down) := (blk_cell HK48.out 3).trans rfl; have hcf3 : w8.frozen? ⟨g4, 3, none⟩ = false := blk_frozen HK48.out 3; have hc4 : w8.cell? ⟨g4, 4, none⟩ = some (.bool cut) := (blk_cell HK48.out 4).trans rfl; have hcf4 : w8.frozen? ⟨g4, 4, none⟩ = false := blk_frozen HK48.out 4; have hc5 : w8.cell? ⟨g4, 5, none⟩ = some (.int .i64 left) := (blk_cell HK48.out 5).trans rfl; have hcf5 : w8.frozen? ⟨g4, 5, none⟩ = false := blk_frozen HK48.out 5; have hz0 : w8.cell? ⟨g6, 0, none⟩ = some (.slice none 0 0) := (blk_cell HK68.out 0).trans rfl; have hzf0 : w8.frozen? ⟨g6, 0, none⟩ = false := blk_frozen HK68.out 0; have hz1 : w8.cell? ⟨g6, 1, none⟩ = some (.slice none 0 0) := (blk_cell HK68.out 1).trans rfl; have hzf1 : w8.frozen? ⟨g6, 1, none⟩ = false := blk_frozen HK68.out 1; have hz2 : w8.cell? ⟨g6, 2, none⟩ = some (.slice none 0 0) := (blk_cell HK68.out 2).trans rfl; have hzf2 : w8.frozen? ⟨g6, 2, none⟩ = false := blk_frozen HK68.out 2; have hz3 : w8.cell? ⟨g6, 3, none⟩ = some (.bool false) := (blk_cell HK68.out 3).trans rfl; have hzf3 : w8.frozen? ⟨g6, 3, none⟩ = false := blk_frozen HK68.out 3; have hz4 : w8.cell? ⟨g6, 4, none⟩ = some (.bool false) := (blk_cell HK68.out 4).trans rfl; have hzf4 : w8.frozen? ⟨g6, 4, none⟩ = false := blk_frozen HK68.out 4; have hz5 : w8.cell? ⟨g6, 5, none⟩ = some (.int .i64 0) := (blk_cell HK68.out 5).trans rfl; have hzf5 : w8.frozen? ⟨g6, 5, none⟩ = false := blk_frozen HK68.out 5; clear hb8))
  go_wp2
  have hgs := HGS.out
  have hM := HM.out
  refine bodyPost_ret (results_ct rfl _ _ g6 102 #[.slice D0 bl.length f0, .slice D1 ws.length f1, .slice D2 bad.length f2, .bool down, .bool true, .int .i64 (mx x.2.1 0)] (0, 0) _ rfl (set6_blk (HK68.out) rfl _ _ _ _ _ _) Try.underlying102 rfl (by kernel_rfl)) rfl ?_
  refine ⟨_, _, _, _, _, _, _, _, _, rfl, ((HT8.out.out1 HK68.out hgs.2.2.1 hgs.2.2.2.2.2 hM _ _ _ _ _ _).all), HFI2.out, set6_below (((HB3.out.mono HBW.out).trans HS6.out.below).trans (HB8.out.mono (show B ≤ w6.heap.size from by have := HT6.out.st.gB; omega))) (Nat.le_trans HBW.out hgs.2.2.1) _ _ _ _ _ _, kept_set6 (((Kept.of_below HB3.out (Mut B M0 g dv wv)).then_ HS6.out.kept (fun k hk => .inl hk)).below HB8.out) hgs.2.2.1 _ _ _ _ _ _⟩
set_option maxHeartbeats 8000000 in
set_option maxRecDepth 100000 in
theorem Do_crash {Q : Nat → Prop} {B M0 g nb i : Nat} {bv dv wv v0 v1 v2 : Value} {bl : List (List Int)} {ws : List S183} {bad : List Int} {down cut : Bool} {left : Int} {w : World} (t : Two B M0 g bv dv wv bl (ws.map toW) bad down (dl cut left) Q v0 v1 v2 bl ws w) (fi : Fit nb i bl ws bad left) (hi : i ≤ 100) (hnb : nb ≤ 300) (x : DOp) (Ax : Option Addr) (cx : Nat) (hk : x.1 ≠ 0 ∧ x.1 ≠ 1 ∧ x.1 ≠ 2) (hxp : Kd.F (Kd.int .i64) w (fun k => k < B) Ax x.2.2.2.2.2.length x.2.2.2.2.2) (hxl : x.2.2.2.2.2.length ≤ cx) : Calls Try.prog 52 #[.pointer (some ⟨g, 0, none⟩), .agg (stC v0 v1 v2 down cut left), .agg (opC x Ax cx).toArray] w (DoPost B M0 g bv dv wv bad nb (i + 1) Q w) := by
  have HFI2 := Aside0.mk (fi.crash x.2.2.2.2.2)
  have HXP := Aside0.mk hxp
  have HXL := Aside0.mk hxl
  have hk0 : (x.1 == 0) = false := beq_eq_false_iff_ne.mpr (by omega)
  have hk1 : (x.1 == 1) = false := beq_eq_false_iff_ne.mpr (by omega)
  have hk2 : (x.1 == 2) = false := beq_eq_false_iff_ne.mpr (by omega)
  obtain ⟨A0, c0, rfl⟩ := Kd.V_slice t.rf.b
  obtain ⟨A1, c1, rfl⟩ := Kd.V_slice t.rf.q
  obtain ⟨A2, c2, rfl⟩ := Kd.V_slice t.rf.d
  have HT := Aside0.mk t
  have HFI := Aside0.mk fi
  have HM := Aside0.mk t.st.gB.2.2
  have HBW := Aside0.mk (show B ≤ w.heap.size from by have := t.st.gB; omega)
  have HI100 := Aside0.mk hi
  have HNB := Aside0.mk hnb
  clear t fi hi hnb
  clear hk hxp hxl
  go_enter Try.func52, Try.ntmps52
  go_wp2_with (first
    | ((with_reducible refine gate_dst (N := 4) rfl ?_); refine L_box rfl 102 (.tmp 1) rfl (.agg #[.slice A0 bl.length c0, .slice A1 ws.length c1, .slice A2 bad.length c2, .bool down, .bool cut, .int .i64 left]) rfl ?_; intro g4 w1 hb hg hs hl; have HKg4 := Aside0.mk hb; have HGg4 := Aside0.mk hg; have HLg4 := Aside0.mk hl; clear hb hg hs hl)
    | ((with_reducible refine gate_dst (N := 5) rfl ?_); refine L_box rfl 88 (.tmp 2) rfl (.agg #[.int .i64 x.1, .int .i64 x.2.1, .int .u8 x.2.2.1, .int .u8 x.2.2.2.1, .bool x.2.2.2.2.1, .slice Ax x.2.2.2.2.2.length cx]) rfl ?_; intro g5 w2 hb hg hs hl; have HKg5 := Aside0.mk hb; have HGg5 := Aside0.mk hg; have HLg5 := Aside0.mk hl; clear hb hg hs hl)
    | ((with_reducible refine gate_dst (N := 6) rfl ?_); refine L_alloc rfl 102 rfl (.agg #[.slice none 0 0, .slice none 0 0, .slice none 0 0, .bool false, .bool false, .int .i64 0]) 6 (by kernel_rfl) ?_; intro g6 w3 hb hg hs hl; have HKg6 := Aside0.mk hb; have HGg6 := Aside0.mk hg; have HLg6 := Aside0.mk hl; clear hb hg hs hl; have HB3 := Aside0.mk (below_step (below_step HLg4.out HLg5.out) HLg6.out); have HK43 := Aside0.mk (blk_below (blk_below HKg4.out HLg5.out) HLg6.out); have HK53 := Aside0.mk (blk_below HKg5.out HLg6.out); have HGS := Aside0.mk (show w.heap.size ≤ g4 ∧ w.heap.size ≤ g5 ∧ w.heap.size ≤ g6 ∧ g4 < g5 ∧ g5 < g6 ∧ g6 < w3.heap.size from by have h1 := HGg4.out; have h2 := HGg5.out; have h3 := HGg6.out; have h4 := blk_lt HKg4.out; have h5 := blk_lt HKg5.out; have h6 := blk_lt HKg6.out; omega); have hne1 : g4 ≠ g6 := (by have := HGS.out; omega); have hne2 : g6 ≠ g4 := (fun e => hne1 e.symm); have HNE := Aside0.mk hne2; have HT3 := Aside0.mk (HT.out.inn (N1 := w3.heap.size) HB3.out (Nat.le_refl _)); have hc0 : w3.cell? ⟨g4, 0, none⟩ = some (.slice A0 bl.length c0) := (blk_cell HK43.out 0).trans rfl; have hcf0 : w3.frozen? ⟨g4, 0, none⟩ = false := blk_frozen HK43.out 0; have hc1 : w3.cell? ⟨g4, 1, none⟩ = some (.slice A1 ws.length c1) := (blk_cell HK43.out 1).trans rfl; have hcf1 : w3.frozen? ⟨g4, 1, none⟩ = false := blk_frozen HK43.out 1; have hc2 : w3.cell? ⟨g4, 2, none⟩ = some (.slice A2 bad.length c2) := (blk_cell HK43.out 2).trans rfl; have hcf2 : w3.frozen? ⟨g4, 2, none⟩ = false := blk_frozen HK43.out 2; have hc3 : w3.cell? ⟨g4, 3, none⟩ = some (.bool down) := (blk_cell HK43.out 3).trans rfl; have hcf3 : w3.frozen? ⟨g4, 3, none⟩ = false := blk_frozen HK43.out 3; have hc4 : w3.cell? ⟨g4, 4, none⟩ = some (.bool cut) := (blk_cell HK43.out 4).trans rfl; have hcf4 : w3.frozen? ⟨g4, 4, none⟩ = false := blk_frozen HK43.out 4; have hc5 : w3.cell? ⟨g4, 5, none⟩ = some (.int .i64 left) := (blk_cell HK43.out 5).trans rfl; have hcf5 : w3.frozen? ⟨g4, 5, none⟩ = false := blk_frozen HK43.out 5; have ho0 : w3.cell? ⟨g5, 0, none⟩ = some (.int .i64 x.1) := (blk_cell HK53.out 0).trans rfl; have ho1 : w3.cell? ⟨g5, 1, none⟩ = some (.int .i64 x.2.1) := (blk_cell HK53.out 1).trans rfl; have ho2 : w3.cell? ⟨g5, 2, none⟩ = some (.int .u8 x.2.2.1) := (blk_cell HK53.out 2).trans rfl; have ho3 : w3.cell? ⟨g5, 3, none⟩ = some (.int .u8 x.2.2.2.1) := (blk_cell HK53.out 3).trans rfl; have ho4 : w3.cell? ⟨g5, 4, none⟩ = some (.bool x.2.2.2.2.1) := (blk_cell HK53.out 4).trans rfl; have ho5 : w3.cell? ⟨g5, 5, none⟩ = some (.slice Ax x.2.2.2.2.2.length cx) := (blk_cell HK53.out 5).trans rfl; have hz0 : w3.cell? ⟨g6, 0, none⟩ = some (.slice none 0 0) := (blk_cell HKg6.out 0).trans rfl; have hzf0 : w3.frozen? ⟨g6, 0, none⟩ = false := blk_frozen HKg6.out 0; have hz1 : w3.cell? ⟨g6, 1, none⟩ = some (.slice none 0 0) := (blk_cell HKg6.out 1).trans rfl; have hzf1 : w3.frozen? ⟨g6, 1, none⟩ = false := blk_frozen HKg6.out 1; have hz2 : w3.cell? ⟨g6, 2, none⟩ = some (.slice none 0 0) := (blk_cell HKg6.out 2).trans rfl; have hzf2 : w3.frozen? ⟨g6, 2, none⟩ = false := blk_frozen HKg6.out 2; have hz3 : w3.cell? ⟨g6, 3, none⟩ = some (.bool false) := (blk_cell HKg6.out 3).trans rfl; have hzf3 : w3.frozen? ⟨g6, 3, none⟩ = false := blk_frozen HKg6.out 3; have hz4 : w3.cell? ⟨g6, 4, none⟩ = some (.bool false) := (blk_cell HKg6.out 4).trans rfl; have hzf4 : w3.frozen? ⟨g6, 4, none⟩ = false := blk_frozen HKg6.out 4; have hz5 : w3.cell? ⟨g6, 5, none⟩ = some (.int .i64 0) := (blk_cell HKg6.out 5).trans rfl; have hzf5 : w3.frozen? ⟨g6, 5, none⟩ = false := blk_frozen HKg6.out 5)
    | (go_at_call 49; refine (HT3.out.st.Crash Ax cx x.2.2.2.2.2 (HT3.out.st.oldF (Kd.F_below HXP.out HB3.out)) HXL.out HFI.out.wf (by rw [List.length_map]; have := HFI.out.short; have := HI100.out; omega)).mono ?_; rintro e w6 ⟨rfl, h1, h2⟩; have h3 := Nx.nil wv w3; have HT6 := Aside0.mk (HT3.out.dstep h1 h2 h3); have HMG := Aside0.mk (fun (k : Nat) (h : w.heap.size ≤ k) (hm : Mut B M0 g dv wv k) => (show False by have := HT.out.st.mut_lt hm; omega)); have HK46 := Aside0.mk (blk_kept HK43.out h2.kept (HMG.out g4 HGS.out.1)); have HK56 := Aside0.mk (blk_kept HK53.out h2.kept (HMG.out g5 HGS.out.2.1)); have HK66 := Aside0.mk (blk_kept HKg6.out h2.kept (HMG.out g6 HGS.out.2.2.1)); have HS6 := Aside0.mk h2; clear hc0 hcf0 hz0 hzf0 ho0 hc1 hcf1 hz1 hzf1 ho1 hc2 hcf2 hz2 hzf2 ho2 hc3 hcf3 hz3 hzf3 ho3 hc4 hcf4 hz4 hzf4 ho4 hc5 hcf5 hz5 hzf5 ho5; have hc0 : w6.cell? ⟨g4, 0, none⟩ = some (.slice A0 bl.length c0) := (blk_cell HK46.out 0).trans rfl; have hcf0 : w6.frozen? ⟨g4, 0, none⟩ = false := blk_frozen HK46.out 0; have hc1 : w6.cell? ⟨g4, 1, none⟩ = some (.slice A1 ws.length c1) := (blk_cell HK46.out 1).trans rfl; have hcf1 : w6.frozen? ⟨g4, 1, none⟩ = false := blk_frozen HK46.out 1; have hc2 : w6.cell? ⟨g4, 2, none⟩ = some (.slice A2 bad.length c2) := (blk_cell HK46.out 2).trans rfl; have hcf2 : w6.frozen? ⟨g4, 2, none⟩ = false := blk_frozen HK46.out 2; have hc3 : w6.cell? ⟨g4, 3, none⟩ = some (.bool down) := (blk_cell HK46.out 3).trans rfl; have hcf3 : w6.frozen? ⟨g4, 3, none⟩ = false := blk_frozen HK46.out 3; have hc4 : w6.cell? ⟨g4, 4, none⟩ = some (.bool cut) := (blk_cell HK46.out 4).trans rfl; have hcf4 : w6.frozen? ⟨g4, 4, none⟩ = false := blk_frozen HK46.out 4; have hc5 : w6.cell? ⟨g4, 5, none⟩ = some (.int .i64 left) := (blk_cell HK46.out 5).trans rfl; have hcf5 : w6.frozen? ⟨g4, 5, none⟩ = false := blk_frozen HK46.out 5; have ho0 : w6.cell? ⟨g5, 0, none⟩ = some (.int .i64 x.1) := (blk_cell HK56.out 0).trans rfl; have ho1 : w6.cell? ⟨g5, 1, none⟩ = some (.int .i64 x.2.1) := (blk_cell HK56.out 1).trans rfl; have ho2 : w6.cell? ⟨g5, 2, none⟩ = some (.int .u8 x.2.2.1) := (blk_cell HK56.out 2).trans rfl; have ho3 : w6.cell? ⟨g5, 3, none⟩ = some (.int .u8 x.2.2.2.1) := (blk_cell HK56.out 3).trans rfl; have ho4 : w6.cell? ⟨g5, 4, none⟩ = some (.bool x.2.2.2.2.1) := (blk_cell HK56.out 4).trans rfl; have ho5 : w6.cell? ⟨g5, 5, none⟩ = some (.slice Ax x.2.2.2.2.2.length cx) := (blk_cell HK56.out 5).trans rfl; have hz0 : w6.cell? ⟨g6, 0, none⟩ = some (.slice none 0 0) := (blk_cell HK66.out 0).trans rfl; have hzf0 : w6.frozen? ⟨g6, 0, none⟩ = false := blk_frozen HK66.out 0; have hz1 : w6.cell? ⟨g6, 1, none⟩ = some (.slice none 0 0) := (blk_cell HK66.out 1).trans rfl; have hzf1 : w6.frozen? ⟨g6, 1, none⟩ = false := blk_frozen HK66.out 1; have hz2 : w6.cell? ⟨g6, 2, none⟩ = some (.slice none 0 0) := (blk_cell HK66.out 2).trans rfl; have hzf2 : w6.frozen? ⟨g6, 2, none⟩ = false := blk_frozen HK66.out 2; have hz3 : w6.cell? ⟨g6, 3, none⟩ = some (.bool false) := (blk_cell HK66.out 3).trans rfl; have hzf3 : w6.frozen? ⟨g6, 3, none⟩ = false := blk_frozen HK66.out 3; have hz4 : w6.cell? ⟨g6, 4, none⟩ = some (.bool false) := (blk_cell HK66.out 4).trans rfl; have hzf4 : w6.frozen? ⟨g6, 4, none⟩ = false := blk_frozen HK66.out 4; have hz5 : w6.cell? ⟨g6, 5, none⟩ = some (.int .i64 0) := (blk_cell HK66.out 5).trans rfl; have hzf5 : w6.frozen? ⟨g6, 5, none⟩ = false := blk_frozen HK66.out 5; clear h1 h2 h3)
    | (go_at_call 83; refine (HT6.out.rf.Crash Ax cx x.2.2.2.2.2 (Kd.F_now (Kd.F_step HXP.out (fun k hk _ => ((HB3.out.mono HBW.out).trans HS6.out.below).block k hk))) HFI.out.wf (by have := HFI.out.short; have := HI100.out; omega) (by have := HFI.out.len; have := HNB.out; omega)).mono ?_; rintro e w8 ⟨v, rfl, hp⟩; obtain ⟨D0, f0, D1, f1, D2, f2, rfl, ht, hb⟩ := HT6.out.rstep hp; clear hp; have HT8 := Aside0.mk ht; have HB8 := Aside0.mk hb; have HK48 := Aside0.mk (blk_below HK46.out hb); have HK68 := Aside0.mk (blk_below HK66.out hb); have hb8 := hb; clear ht hb; clear hc0 hcf0 hz0 hzf0 ho0 hc1 hcf1 hz1 hzf1 ho1 hc2 hcf2 hz2 hzf2 ho2 hc3 hcf3 hz3 hzf3 ho3 hc4 hcf4 hz4 hzf4 ho4 hc5 hcf5 hz5 hzf5 ho5; have hc0 : w8.cell? ⟨g4, 0, none⟩ = some (.slice A0 bl.length c0) := (blk_cell HK48.out 0).trans rfl; have hcf0 : w8.frozen? ⟨g4, 0, none⟩ = false := blk_frozen HK48.out 0; have hc1 : w8.cell? ⟨g4, 1, none⟩ = some (.slice A1 ws.length c1) := (blk_cell HK48.out 1).trans rfl; have hcf1 : w8.frozen? ⟨g4, 1, none⟩ = false := blk_frozen HK48.out 1; have hc2 : w8.cell? ⟨g4, 2, none⟩ = some (.slice A2 bad.length c2) := (blk_cell HK48.out 2).trans rfl; have hcf2 : w8.frozen? ⟨g4, 2, none⟩ = false := blk_frozen HK48.out 2; have hc3 : w8.cell? ⟨g4, 3, none⟩ = some (.bool down) := (blk_cell HK48.out 3).trans rfl; have hcf3 : w8.frozen? ⟨g4, 3, none⟩ = false := blk_frozen HK48.out 3; have hc4 : w8.cell? ⟨g4, 4, none⟩ = some (.bool cut) := (blk_cell HK48.out 4).trans rfl; have hcf4 : w8.frozen? ⟨g4, 4, none⟩ = false := blk_frozen HK48.out 4; have hc5 : w8.cell? ⟨g4, 5, none⟩ = some (.int .i64 left) := (blk_cell HK48.out 5).trans rfl; have hcf5 : w8.frozen? ⟨g4, 5, none⟩ = false := blk_frozen HK48.out 5; have hz0 : w8.cell? ⟨g6, 0, none⟩ = some (.slice none 0 0) := (blk_cell HK68.out 0).trans rfl; have hzf0 : w8.frozen? ⟨g6, 0, none⟩ = false := blk_frozen HK68.out 0; have hz1 : w8.cell? ⟨g6, 1, none⟩ = some (.slice none 0 0) := (blk_cell HK68.out 1).trans rfl; have hzf1 : w8.frozen? ⟨g6, 1, none⟩ = false := blk_frozen HK68.out 1; have hz2 : w8.cell? ⟨g6, 2, none⟩ = some (.slice none 0 0) := (blk_cell HK68.out 2).trans rfl; have hzf2 : w8.frozen? ⟨g6, 2, none⟩ = false := blk_frozen HK68.out 2; have hz3 : w8.cell? ⟨g6, 3, none⟩ = some (.bool false) := (blk_cell HK68.out 3).trans rfl; have hzf3 : w8.frozen? ⟨g6, 3, none⟩ = false := blk_frozen HK68.out 3; have hz4 : w8.cell? ⟨g6, 4, none⟩ = some (.bool false) := (blk_cell HK68.out 4).trans rfl; have hzf4 : w8.frozen? ⟨g6, 4, none⟩ = false := blk_frozen HK68.out 4; have hz5 : w8.cell? ⟨g6, 5, none⟩ = some (.int .i64 0) := (blk_cell HK68.out 5).trans rfl; have hzf5 : w8.frozen? ⟨g6, 5, none⟩ = false := blk_frozen HK68.out 5; clear hb8))
  go_wp2
  have hgs := HGS.out
  have hM := HM.out
  refine bodyPost_ret (results_ct rfl _ _ g6 102 #[.slice D0 (crashB (ws.map toW) x.2.2.2.2.2 bl).length f0, .slice D1 0 f1, .slice D2 bad.length f2, .bool false, .bool false, .int .i64 0] (0, 0) _ rfl (set6_blk (HK68.out) rfl _ _ _ _ _ _) Try.underlying102 rfl (by kernel_rfl)) rfl ?_
  refine ⟨_, _, _, _, _, _, _, _, _, rfl, ((HT8.out.out1 HK68.out hgs.2.2.1 hgs.2.2.2.2.2 hM _ _ _ _ _ _).all), HFI2.out, set6_below (((HB3.out.mono HBW.out).trans HS6.out.below).trans (HB8.out.mono (show B ≤ w6.heap.size from by have := HT6.out.st.gB; omega))) (Nat.le_trans HBW.out hgs.2.2.1) _ _ _ _ _ _, kept_set6 (((Kept.of_below HB3.out (Mut B M0 g dv wv)).then_ HS6.out.kept (fun k hk => .inl hk)).below HB8.out) hgs.2.2.1 _ _ _ _ _ _⟩
def Du52_4.T : Bool × List (List Nat × List Nat) := (true, [([], []), ([], []), ([1], [1]), ([], []), ([3], [3]), ([0, 2, 4, 4], [0, 2, 4]), ([5, 5, 0, 1, 2, 3, 4, 5], [5])])
def Du52_4.B : List Nat := [0, 0, 2, 0, 8, 31, 63]
theorem Du52_4.tab : rtab .any (opsOf Try.f52 4) = Du52_4.T := by kernel_rfl
theorem Du52_4.bits : waitsOk Du52_4.T.2 Du52_4.B = true := by kernel_rfl
def Du52_5.T : Bool × List (List Nat × List Nat) := (true, [([], []), ([], []), ([1], [1]), ([], []), ([3], [3]), ([0, 2, 4, 4], [0, 2, 4]), ([5], [5]), ([6], [6]), ([6], [6]), ([7, 5, 0, 1, 2, 3, 4, 5, 6, 7], [7]), ([8, 9, 0, 1, 2, 3, 4, 5, 6, 7, 8, 9], [8])])
def Du52_5.B : List Nat := [0, 0, 2, 0, 8, 31, 63, 127, 127, 255, 1023]
theorem Du52_5.tab : rtab .any (opsOf Try.f52 5) = Du52_5.T := by kernel_rfl
theorem Du52_5.bits : waitsOk Du52_5.T.2 Du52_5.B = true := by kernel_rfl
set_option maxHeartbeats 8000000 in
set_option maxRecDepth 100000 in
theorem Do_write {Q : Nat → Prop} {B M0 g nb i : Nat} {bv dv wv v0 v1 v2 : Value} {bl : List (List Int)} {ws : List S183} {bad : List Int} {down cut : Bool} {left : Int} {w : World} (t : Two B M0 g bv dv wv bl (ws.map toW) bad down (dl cut left) Q v0 v1 v2 bl ws w) (fi : Fit nb i bl ws bad left) (hi : i ≤ 100) (hnb : nb ≤ 300) (x : DOp) (Ax : Option Addr) (cx : Nat) (hk : x.1 = 0) (hxp : Kd.F (Kd.int .i64) w (fun k => k < B) Ax x.2.2.2.2.2.length x.2.2.2.2.2) (hxl : x.2.2.2.2.2.length ≤ cx) : Calls Try.prog 52 #[.pointer (some ⟨g, 0, none⟩), .agg (stC v0 v1 v2 down cut left), .agg (opC x Ax cx).toArray] w (DoPost B M0 g bv dv wv bad nb (i + 1) Q w) := by
  obtain ⟨kb, hkb⟩ := block_ev x.1 x.2.1 x.2.2.1 x.2.2.2.1 x.2.2.2.2.1 x.2.2.2.2.2
  obtain ⟨b0, hb0⟩ : ∃ b0, b0 = blkL x.2.2.1 x.2.2.2.1 x.2.2.2.2.1 := ⟨_, rfl⟩
  rw [← hb0] at hkb
  obtain ⟨rc, rws, rdn, rlf, hrs⟩ : ∃ rc rws rdn rlf, rPut bl.length ws bad down cut left x.2.1 b0 = (rc, rws, rdn, rlf) := ⟨_, _, _, _, rfl⟩
  have hse := wr_eq bl.length ws bad down cut left x.2.1 b0 fi.left_.1
  rw [hrs] at hse
  have hfi := fi.put down cut x.2.1 b0
  rw [hrs] at hfi
  have HFI2 := Aside0.mk (show Fit nb (i + 1) bl rws bad rlf from hfi)
  have HSE := Aside0.mk (show wrS bl.length (ws.map toW) bad down (dl cut left) x.2.1 b0 = (rc, rws.map toW, rdn, dl cut rlf) from hse)
  have HRS := Aside0.mk hrs
  have HKB := Aside0.mk hkb
  have HLD := Aside0.mk (show dl cut left ≤ 9223372036854775807 by have := fi.left_; unfold dl; split <;> omega)
  have HXP := Aside0.mk hxp
  have HXL := Aside0.mk hxl
  have hrc : (rc == rc) = true := beq_self_eq_true rc
  have hk0 : (x.1 == 0) = true := by rw [hk]; rfl
  obtain ⟨A0, c0, rfl⟩ := Kd.V_slice t.rf.b
  obtain ⟨A1, c1, rfl⟩ := Kd.V_slice t.rf.q
  obtain ⟨A2, c2, rfl⟩ := Kd.V_slice t.rf.d
  have HT := Aside0.mk t
  have HFI := Aside0.mk fi
  have HM := Aside0.mk t.st.gB.2.2
  have HBW := Aside0.mk (show B ≤ w.heap.size from by have := t.st.gB; omega)
  have HI100 := Aside0.mk hi
  have HNB := Aside0.mk hnb
  clear t fi hi hnb
  clear hrs hse hfi hk hkb hb0 hxp hxl
  go_enter Try.func52, Try.ntmps52
  go_wp2_with (first
    | ((with_reducible refine gate_dst (N := 4) rfl ?_); refine L_box rfl 102 (.tmp 1) rfl (.agg #[.slice A0 bl.length c0, .slice A1 ws.length c1, .slice A2 bad.length c2, .bool down, .bool cut, .int .i64 left]) rfl ?_; intro g4 w1 hb hg hs hl; have HKg4 := Aside0.mk hb; have HGg4 := Aside0.mk hg; have HLg4 := Aside0.mk hl; clear hb hg hs hl)
    | ((with_reducible refine gate_dst (N := 5) rfl ?_); refine L_box rfl 88 (.tmp 2) rfl (.agg #[.int .i64 x.1, .int .i64 x.2.1, .int .u8 x.2.2.1, .int .u8 x.2.2.2.1, .bool x.2.2.2.2.1, .slice Ax x.2.2.2.2.2.length cx]) rfl ?_; intro g5 w2 hb hg hs hl; have HKg5 := Aside0.mk hb; have HGg5 := Aside0.mk hg; have HLg5 := Aside0.mk hl; clear hb hg hs hl)
    | ((with_reducible refine gate_dst (N := 6) rfl ?_); refine L_alloc rfl 102 rfl (.agg #[.slice none 0 0, .slice none 0 0, .slice none 0 0, .bool false, .bool false, .int .i64 0]) 6 (by kernel_rfl) ?_; intro g6 w3 hb hg hs hl; have HKg6 := Aside0.mk hb; have HGg6 := Aside0.mk hg; have HLg6 := Aside0.mk hl; clear hb hg hs hl; have HB3 := Aside0.mk (below_step (below_step HLg4.out HLg5.out) HLg6.out); have HK43 := Aside0.mk (blk_below (blk_below HKg4.out HLg5.out) HLg6.out); have HK53 := Aside0.mk (blk_below HKg5.out HLg6.out); have HGS := Aside0.mk (show w.heap.size ≤ g4 ∧ w.heap.size ≤ g5 ∧ w.heap.size ≤ g6 ∧ g4 < g5 ∧ g5 < g6 ∧ g6 < w3.heap.size from by have h1 := HGg4.out; have h2 := HGg5.out; have h3 := HGg6.out; have h4 := blk_lt HKg4.out; have h5 := blk_lt HKg5.out; have h6 := blk_lt HKg6.out; omega); have hne1 : g4 ≠ g6 := (by have := HGS.out; omega); have hne2 : g6 ≠ g4 := (fun e => hne1 e.symm); have HNE := Aside0.mk hne2; have HT3 := Aside0.mk (HT.out.inn (N1 := w3.heap.size) HB3.out (Nat.le_refl _)); have hc0 : w3.cell? ⟨g4, 0, none⟩ = some (.slice A0 bl.length c0) := (blk_cell HK43.out 0).trans rfl; have hcf0 : w3.frozen? ⟨g4, 0, none⟩ = false := blk_frozen HK43.out 0; have hc1 : w3.cell? ⟨g4, 1, none⟩ = some (.slice A1 ws.length c1) := (blk_cell HK43.out 1).trans rfl; have hcf1 : w3.frozen? ⟨g4, 1, none⟩ = false := blk_frozen HK43.out 1; have hc2 : w3.cell? ⟨g4, 2, none⟩ = some (.slice A2 bad.length c2) := (blk_cell HK43.out 2).trans rfl; have hcf2 : w3.frozen? ⟨g4, 2, none⟩ = false := blk_frozen HK43.out 2; have hc3 : w3.cell? ⟨g4, 3, none⟩ = some (.bool down) := (blk_cell HK43.out 3).trans rfl; have hcf3 : w3.frozen? ⟨g4, 3, none⟩ = false := blk_frozen HK43.out 3; have hc4 : w3.cell? ⟨g4, 4, none⟩ = some (.bool cut) := (blk_cell HK43.out 4).trans rfl; have hcf4 : w3.frozen? ⟨g4, 4, none⟩ = false := blk_frozen HK43.out 4; have hc5 : w3.cell? ⟨g4, 5, none⟩ = some (.int .i64 left) := (blk_cell HK43.out 5).trans rfl; have hcf5 : w3.frozen? ⟨g4, 5, none⟩ = false := blk_frozen HK43.out 5; have ho0 : w3.cell? ⟨g5, 0, none⟩ = some (.int .i64 x.1) := (blk_cell HK53.out 0).trans rfl; have ho1 : w3.cell? ⟨g5, 1, none⟩ = some (.int .i64 x.2.1) := (blk_cell HK53.out 1).trans rfl; have ho2 : w3.cell? ⟨g5, 2, none⟩ = some (.int .u8 x.2.2.1) := (blk_cell HK53.out 2).trans rfl; have ho3 : w3.cell? ⟨g5, 3, none⟩ = some (.int .u8 x.2.2.2.1) := (blk_cell HK53.out 3).trans rfl; have ho4 : w3.cell? ⟨g5, 4, none⟩ = some (.bool x.2.2.2.2.1) := (blk_cell HK53.out 4).trans rfl; have ho5 : w3.cell? ⟨g5, 5, none⟩ = some (.slice Ax x.2.2.2.2.2.length cx) := (blk_cell HK53.out 5).trans rfl; have hz0 : w3.cell? ⟨g6, 0, none⟩ = some (.slice none 0 0) := (blk_cell HKg6.out 0).trans rfl; have hzf0 : w3.frozen? ⟨g6, 0, none⟩ = false := blk_frozen HKg6.out 0; have hz1 : w3.cell? ⟨g6, 1, none⟩ = some (.slice none 0 0) := (blk_cell HKg6.out 1).trans rfl; have hzf1 : w3.frozen? ⟨g6, 1, none⟩ = false := blk_frozen HKg6.out 1; have hz2 : w3.cell? ⟨g6, 2, none⟩ = some (.slice none 0 0) := (blk_cell HKg6.out 2).trans rfl; have hzf2 : w3.frozen? ⟨g6, 2, none⟩ = false := blk_frozen HKg6.out 2; have hz3 : w3.cell? ⟨g6, 3, none⟩ = some (.bool false) := (blk_cell HKg6.out 3).trans rfl; have hzf3 : w3.frozen? ⟨g6, 3, none⟩ = false := blk_frozen HKg6.out 3; have hz4 : w3.cell? ⟨g6, 4, none⟩ = some (.bool false) := (blk_cell HKg6.out 4).trans rfl; have hzf4 : w3.frozen? ⟨g6, 4, none⟩ = false := blk_frozen HKg6.out 4; have hz5 : w3.cell? ⟨g6, 5, none⟩ = some (.int .i64 0) := (blk_cell HKg6.out 5).trans rfl; have hzf5 : w3.frozen? ⟨g6, 5, none⟩ = false := blk_frozen HKg6.out 5))
  have HOC := Aside0.mk (fun (W : World) (h : W.heap[g5]? = some (.cells #[.int .i64 x.1, .int .i64 x.2.1, .int .u8 x.2.2.1, .int .u8 x.2.2.2.1, .bool x.2.2.2.2.1, .slice Ax x.2.2.2.2.2.length cx] 88 (0, 0))) => (show (∀ (j : Nat) (v : Value), (opC x Ax cx)[j]? = some v → W.cell? ((⟨g5, 0, none⟩ : Addr).add j) = some v) ∧ W.cell? ⟨g5, 1, none⟩ = some (.int .i64 x.2.1) from ⟨cells_of_blk (cs := (opC x Ax cx)) h, (blk_cell h 1).trans rfl⟩))
  refine start_ (n := 7) (S := fun w' => (∀ (j : Nat) (v : Value), (opC x Ax cx)[j]? = some v → w'.cell? ((⟨g5, 0, none⟩ : Addr).add j) = some v) ∧ w'.cell? ⟨g5, 1, none⟩ = some (.int .i64 x.2.1)) (ds := []) #[false, false, false, false, false, false, false] (by kernel_rfl) rfl rfl ⟨(HOC.out w3.drew HK53.out).1, (HOC.out w3.drew HK53.out).2⟩ (fun hHeld => ?_); refine with_tabW Du52_4.tab Du52_4.bits (fun HT_ HW_ => ?_)
  refine pure_ (i := 0) (N := some 15) (v := ?_) (a' := ?_) #[true, false, false, false, false, false, false] rfl rfl (any_of HT_.out (by kernel_rfl)) (fun _ _ _ h => h) (Or.inl ⟨by rfl, ?_⟩) ?_ ?_
  rotate_left
  · intro w'
    go_simp
    with_reducible rfl
  rotate_left
  · simp only [Act.put, List.setIfInBounds_toArray, List.set_cons_zero, List.set_cons_succ, i64_w, i32_w]
    rfl
  refine pure_ (i := 1) (N := some 16) (v := ?_) (a' := ?_) #[true, true, false, false, false, false, false] rfl rfl (any_of HT_.out (by kernel_rfl)) (fun _ _ _ h => h) (Or.inl ⟨by rfl, ?_⟩) ?_ ?_
  rotate_left
  · intro w'
    go_simp
    with_reducible rfl
  rotate_left
  · simp only [Act.put, List.setIfInBounds_toArray, List.set_cons_zero, List.set_cons_succ, i64_w, i32_w]
    rfl
  refine take_ (i := 2) (N := some 17) (v := ?_) (a' := ?_) #[true, true, true, false, false, false, false] rfl rfl (take_ofW HT_.out HW_.out (by kernel_rfl)) (fun _ _ _ h => h) (Or.inl ⟨by rfl, ?_⟩) hHeld ?_ ?_
  rotate_left
  · rintro w' ⟨s0, s1⟩
    go_simp
    with_reducible rfl
  rotate_left
  · simp only [Act.put, List.setIfInBounds_toArray, List.set_cons_zero, List.set_cons_succ, i64_w, i32_w]
    rfl
  refine take_ (i := 3) (N := some 18) (v := .agg (opC x Ax cx).toArray) #[true, true, true, true, false, false, false] rfl rfl (take_ofW HT_.out HW_.out (by kernel_rfl)) (fun _ _ _ h => h) (Or.inl ⟨by rfl, fun w' s0 => run_load_list 88 (.tmp 5) rfl ⟨g5, 0, none⟩ rfl (opC x Ax cx) _ s0.1 Try.underlying88 rfl (by kernel_rfl)⟩) hHeld rfl ?_
  refine norm_ (a' := ?_) ?_ ?_
  rotate_left
  · show Act.put _ (some 18) _ = _
    simp only [Act.put, List.setIfInBounds_toArray, List.set_cons_zero, List.set_cons_succ, i64_w, i32_w]
    rfl
  refine one_ (i := 4) (N := some 19) #[true, true, true, true, true, false, false] rfl rfl (one_of HT_.out (by kernel_rfl)) (by decide) (fun Kq hKq => ?_)
  refine goes_ Try.func46 (by kernel_rfl) rfl #[.agg (opC x Ax cx).toArray] (by rfl) rfl rfl (by (try simp only [List.map_toArray, List.map_cons, List.map_nil]); first | done | rfl) ?_
  refine (batonlaw21_block.calls kb x.1 x.2.1 x.2.2.1 x.2.2.2.1 x.2.2.2.2.1 Ax cx x.2.2.2.2.2 _ w3.drew (Kd.F_now (Kd.F_drew (Kd.F_below HXP.out HB3.out))) HXL.out HKB.out).mono ?_
  rintro e w5 ⟨v5, rfl, hr, hb⟩
  obtain ⟨A5, c5, e5⟩ := Kd.R_slice hr
  subst e5
  have HTD := Aside0.mk (HT3.out.later (below_drew (Below.refl w3.heap.size w3)))
  have HF5 := Aside0.mk (HTD.out.st.freshF (Nat.le_refl _) hr)
  have HL5 := Aside0.mk (Kd.R_reads' hr).2.1
  have HT5 := Aside0.mk (HTD.out.later hb)
  have HB35 := Aside0.mk (show Below w3.heap.size w3 w5 from below_step (below_drew (Below.refl _ _)) hb)
  have HK45 := Aside0.mk (blk_below HK43.out HB35.out)
  have HK55 := Aside0.mk (blk_below HK53.out HB35.out)
  have HK65 := Aside0.mk (blk_below HKg6.out HB35.out)
  clear hr hb
  refine ⟨_, rfl, ?_⟩
  refine hKq.out _ _ (HOC.out w5 HK55.out) (fun hHeld => ?_)
  clear hKq Kq
  refine norm_ (a' := ?_) ?_ ?_
  rotate_left
  · show Act.put _ (some 19) _ = _
    simp only [Act.put, List.setIfInBounds_toArray, List.set_cons_zero, List.set_cons_succ, i64_w, i32_w]
    rfl
  refine one_ (i := 5) (N := some 20) #[true, true, true, true, true, true, false] rfl rfl (one_of HT_.out (by kernel_rfl)) (by decide) (fun Kq hKq => ?_)
  refine goes_ Try.func45 (by kernel_rfl) rfl #[.pointer (some ⟨g, 0, none⟩), .int .i64 x.2.1, .slice A5 b0.length c5] (by rfl) rfl rfl (by (try simp only [List.map_toArray, List.map_cons, List.map_nil]); first | done | rfl) ?_
  refine (HT5.out.st.Write x.2.1 A5 c5 b0 HF5.out HL5.out (by have := HFI.out.badl; omega) HLD.out (by rw [List.length_map]; have := HFI.out.short; have := HI100.out; omega)).mono ?_
  rintro e w6 ⟨rfl, wv6, h1, h2, h3⟩
  rw [HSE.out] at h1 ⊢
  have HT6 := Aside0.mk (HT5.out.dstep h1 h2 h3); have HMG := Aside0.mk (fun (k : Nat) (h : w.heap.size ≤ k) (hm : Mut B M0 g dv wv k) => (show False by have := HT.out.st.mut_lt hm; omega)); have HK46 := Aside0.mk (blk_kept HK45.out h2.kept (HMG.out g4 HGS.out.1)); have HK56 := Aside0.mk (blk_kept HK55.out h2.kept (HMG.out g5 HGS.out.2.1)); have HK66 := Aside0.mk (blk_kept HK65.out h2.kept (HMG.out g6 HGS.out.2.2.1)); have HS6 := Aside0.mk h2; clear hc0 hcf0 hz0 hzf0 ho0 hc1 hcf1 hz1 hzf1 ho1 hc2 hcf2 hz2 hzf2 ho2 hc3 hcf3 hz3 hzf3 ho3 hc4 hcf4 hz4 hzf4 ho4 hc5 hcf5 hz5 hzf5 ho5; have hc0 : w6.cell? ⟨g4, 0, none⟩ = some (.slice A0 bl.length c0) := (blk_cell HK46.out 0).trans rfl; have hcf0 : w6.frozen? ⟨g4, 0, none⟩ = false := blk_frozen HK46.out 0; have hc1 : w6.cell? ⟨g4, 1, none⟩ = some (.slice A1 ws.length c1) := (blk_cell HK46.out 1).trans rfl; have hcf1 : w6.frozen? ⟨g4, 1, none⟩ = false := blk_frozen HK46.out 1; have hc2 : w6.cell? ⟨g4, 2, none⟩ = some (.slice A2 bad.length c2) := (blk_cell HK46.out 2).trans rfl; have hcf2 : w6.frozen? ⟨g4, 2, none⟩ = false := blk_frozen HK46.out 2; have hc3 : w6.cell? ⟨g4, 3, none⟩ = some (.bool down) := (blk_cell HK46.out 3).trans rfl; have hcf3 : w6.frozen? ⟨g4, 3, none⟩ = false := blk_frozen HK46.out 3; have hc4 : w6.cell? ⟨g4, 4, none⟩ = some (.bool cut) := (blk_cell HK46.out 4).trans rfl; have hcf4 : w6.frozen? ⟨g4, 4, none⟩ = false := blk_frozen HK46.out 4; have hc5 : w6.cell? ⟨g4, 5, none⟩ = some (.int .i64 left) := (blk_cell HK46.out 5).trans rfl; have hcf5 : w6.frozen? ⟨g4, 5, none⟩ = false := blk_frozen HK46.out 5; have ho0 : w6.cell? ⟨g5, 0, none⟩ = some (.int .i64 x.1) := (blk_cell HK56.out 0).trans rfl; have ho1 : w6.cell? ⟨g5, 1, none⟩ = some (.int .i64 x.2.1) := (blk_cell HK56.out 1).trans rfl; have ho2 : w6.cell? ⟨g5, 2, none⟩ = some (.int .u8 x.2.2.1) := (blk_cell HK56.out 2).trans rfl; have ho3 : w6.cell? ⟨g5, 3, none⟩ = some (.int .u8 x.2.2.2.1) := (blk_cell HK56.out 3).trans rfl; have ho4 : w6.cell? ⟨g5, 4, none⟩ = some (.bool x.2.2.2.2.1) := (blk_cell HK56.out 4).trans rfl; have ho5 : w6.cell? ⟨g5, 5, none⟩ = some (.slice Ax x.2.2.2.2.2.length cx) := (blk_cell HK56.out 5).trans rfl; have hz0 : w6.cell? ⟨g6, 0, none⟩ = some (.slice none 0 0) := (blk_cell HK66.out 0).trans rfl; have hzf0 : w6.frozen? ⟨g6, 0, none⟩ = false := blk_frozen HK66.out 0; have hz1 : w6.cell? ⟨g6, 1, none⟩ = some (.slice none 0 0) := (blk_cell HK66.out 1).trans rfl; have hzf1 : w6.frozen? ⟨g6, 1, none⟩ = false := blk_frozen HK66.out 1; have hz2 : w6.cell? ⟨g6, 2, none⟩ = some (.slice none 0 0) := (blk_cell HK66.out 2).trans rfl; have hzf2 : w6.frozen? ⟨g6, 2, none⟩ = false := blk_frozen HK66.out 2; have hz3 : w6.cell? ⟨g6, 3, none⟩ = some (.bool false) := (blk_cell HK66.out 3).trans rfl; have hzf3 : w6.frozen? ⟨g6, 3, none⟩ = false := blk_frozen HK66.out 3; have hz4 : w6.cell? ⟨g6, 4, none⟩ = some (.bool false) := (blk_cell HK66.out 4).trans rfl; have hzf4 : w6.frozen? ⟨g6, 4, none⟩ = false := blk_frozen HK66.out 4; have hz5 : w6.cell? ⟨g6, 5, none⟩ = some (.int .i64 0) := (blk_cell HK66.out 5).trans rfl; have hzf5 : w6.frozen? ⟨g6, 5, none⟩ = false := blk_frozen HK66.out 5; clear h1 h2 h3
  refine ⟨_, rfl, ?_⟩
  refine hKq.out _ _ (HOC.out w6 HK56.out) (fun hHeld => ?_)
  clear hKq Kq
  refine norm_ (a' := ?_) ?_ ?_
  rotate_left
  · show Act.put _ (some 20) _ = _
    simp only [Act.put, List.setIfInBounds_toArray, List.set_cons_zero, List.set_cons_succ, i64_w, i32_w]
    rfl
  refine pure_ (i := 6) (N := some 9) (v := ?_) (a' := ?_) #[true, true, true, true, true, true, true] rfl rfl (any_of HT_.out (by kernel_rfl)) (fun _ _ _ h => h) (Or.inl ⟨by rfl, ?_⟩) ?_ ?_
  rotate_left
  · intro w'
    go_simp
    with_reducible rfl
  rotate_left
  · simp only [Act.put, List.setIfInBounds_toArray, List.set_cons_zero, List.set_cons_succ, i64_w, i32_w]
    rfl
  refine done_ (done_of HT_.out (by kernel_rfl)) ?_
  have HP6 := Aside0.mk (Kd.F_now (Kd.F_drew (Kd.F_step HXP.out (fun k hk _ => (((HB3.out.mono HBW.out).trans (HB35.out.mono (Nat.le_trans HBW.out HB3.out.size))).trans HS6.out.below).block k hk))))
  go_wp2
  try clear hc0
  try clear hcf0
  try clear hz0
  try clear hzf0
  try clear ho0
  try clear hc1
  try clear hcf1
  try clear hz1
  try clear hzf1
  try clear ho1
  try clear hc2
  try clear hcf2
  try clear hz2
  try clear hzf2
  try clear ho2
  try clear hc3
  try clear hcf3
  try clear hz3
  try clear hzf3
  try clear ho3
  try clear hc4
  try clear hcf4
  try clear hz4
  try clear hzf4
  try clear ho4
  try clear hc5
  try clear hcf5
  try clear hz5
  try clear hzf5
  try clear ho5
  refine start_ (n := 11) (S := fun w' => (∀ (j : Nat) (v : Value), (opC x Ax cx)[j]? = some v → w'.cell? ((⟨g5, 0, none⟩ : Addr).add j) = some v) ∧ w'.cell? ⟨g5, 1, none⟩ = some (.int .i64 x.2.1) ∧ (∀ (j : Nat) (v : Value), ([.slice A0 bl.length c0, .slice A1 ws.length c1, .slice A2 bad.length c2, .bool down, .bool cut, .int .i64 left] : List Value)[j]? = some v → w'.cell? ((⟨g4, 0, none⟩ : Addr).add j) = some v)) (ds := [9]) #[false, false, false, false, false, false, false, false, false, false, false] (by kernel_rfl) rfl rfl ⟨(HOC.out w6.drew HK56.out).1, (HOC.out w6.drew HK56.out).2, cells_of_blk (cs := ([.slice A0 bl.length c0, .slice A1 ws.length c1, .slice A2 bad.length c2, .bool down, .bool cut, .int .i64 left] : List Value)) HK46.out⟩ (fun hHeld => ?_); refine with_tabW Du52_5.tab Du52_5.bits (fun HT_ HW_ => ?_)
  refine pure_ (i := 1) (N := some 23) (v := ?_) (a' := ?_) #[false, true, false, false, false, false, false, false, false, false, false] rfl rfl (any_of HT_.out (by kernel_rfl)) (fun _ _ _ h => h) (Or.inl ⟨by rfl, ?_⟩) ?_ ?_
  rotate_left
  · intro w'
    go_simp
    with_reducible rfl
  rotate_left
  · simp only [Act.put, List.setIfInBounds_toArray, List.set_cons_zero, List.set_cons_succ, i64_w, i32_w]
    rfl
  refine take_ (i := 2) (N := some 24) (v := ?_) (a' := ?_) #[false, true, true, false, false, false, false, false, false, false, false] rfl rfl (take_ofW HT_.out HW_.out (by kernel_rfl)) (fun _ _ _ h => h) (Or.inl ⟨by rfl, ?_⟩) hHeld ?_ ?_
  rotate_left
  · rintro w' ⟨s0, s1, s2⟩
    go_simp
    with_reducible rfl
  rotate_left
  · simp only [Act.put, List.setIfInBounds_toArray, List.set_cons_zero, List.set_cons_succ, i64_w, i32_w]
    rfl
  refine take_ (i := 0) (N := some 22) (v := .agg ([.slice A0 bl.length c0, .slice A1 ws.length c1, .slice A2 bad.length c2, .bool down, .bool cut, .int .i64 left] : List Value).toArray) #[true, true, true, false, false, false, false, false, false, false, false] rfl rfl (take_ofW HT_.out HW_.out (by kernel_rfl)) (fun _ _ _ h => h) (Or.inl ⟨by rfl, fun w' s0 => run_load_list 102 (.tmp 4) rfl ⟨g4, 0, none⟩ rfl ([.slice A0 bl.length c0, .slice A1 ws.length c1, .slice A2 bad.length c2, .bool down, .bool cut, .int .i64 left] : List Value) _ s0.2.2 Try.underlying102 rfl (by kernel_rfl)⟩) hHeld rfl ?_
  refine norm_ (a' := ?_) ?_ ?_
  rotate_left
  · show Act.put _ (some 22) _ = _
    simp only [Act.put, List.setIfInBounds_toArray, List.set_cons_zero, List.set_cons_succ, i64_w, i32_w]
    rfl
  refine take_ (i := 3) (N := some 25) (v := .agg (opC x Ax cx).toArray) #[true, true, true, true, false, false, false, false, false, false, false] rfl rfl (take_ofW HT_.out HW_.out (by kernel_rfl)) (fun _ _ _ h => h) (Or.inl ⟨by rfl, fun w' s0 => run_load_list 88 (.tmp 5) rfl ⟨g5, 0, none⟩ rfl (opC x Ax cx) _ s0.1 Try.underlying88 rfl (by kernel_rfl)⟩) hHeld rfl ?_
  refine norm_ (a' := ?_) ?_ ?_
  rotate_left
  · show Act.put _ (some 25) _ = _
    simp only [Act.put, List.setIfInBounds_toArray, List.set_cons_zero, List.set_cons_succ, i64_w, i32_w]
    rfl
  refine one_ (i := 4) (N := some 26) #[true, true, true, true, true, false, false, false, false, false, false] rfl rfl (one_of HT_.out (by kernel_rfl)) (by decide) (fun Kq hKq => ?_)
  refine goes_ Try.func46 (by kernel_rfl) rfl #[.agg (opC x Ax cx).toArray] (by rfl) rfl rfl (by (try simp only [List.map_toArray, List.map_cons, List.map_nil]); first | done | rfl) ?_
  refine (batonlaw21_block.calls kb x.1 x.2.1 x.2.2.1 x.2.2.2.1 x.2.2.2.2.1 Ax cx x.2.2.2.2.2 _ w6.drew (HP6.out) HXL.out HKB.out).mono ?_
  rintro e w7 ⟨v7, rfl, hr, hb⟩
  obtain ⟨A7, c7, e7, hl7, hC7⟩ := Kd.R_reads hr
  subst e7
  have HC7 := Aside0.mk hC7
  have HL7 := Aside0.mk hl7
  have HB67 := Aside0.mk (show Below w6.heap.size w6 w7 from below_step (below_drew (Below.refl _ _)) hb)
  have HT7 := Aside0.mk (HT6.out.later HB67.out)
  have HK47 := Aside0.mk (blk_below HK46.out HB67.out)
  have HK57 := Aside0.mk (blk_below HK56.out HB67.out)
  have HK67 := Aside0.mk (blk_below HK66.out HB67.out)
  clear hr hb hl7 hC7
  refine ⟨_, rfl, ?_⟩
  refine hKq.out _ _ ⟨(HOC.out w7 HK57.out).1, (HOC.out w7 HK57.out).2, cells_of_blk (cs := ([.slice A0 bl.length c0, .slice A1 ws.length c1, .slice A2 bad.length c2, .bool down, .bool cut, .int .i64 left] : List Value)) HK47.out⟩ (fun hHeld => ?_)
  clear hKq Kq
  refine norm_ (a' := ?_) ?_ ?_
  rotate_left
  · show Act.put _ (some 26) _ = _
    simp only [Act.put, List.setIfInBounds_toArray, List.set_cons_zero, List.set_cons_succ, i64_w, i32_w]
    rfl
  refine one_ (i := 5) (N := some 27) #[true, true, true, true, true, true, false, false, false, false, false] rfl rfl (one_of HT_.out (by kernel_rfl)) (by decide) (fun Kq hKq => ?_)
  refine goes_ Try.func80 (by kernel_rfl) rfl #[.agg ([.slice A0 bl.length c0, .slice A1 ws.length c1, .slice A2 bad.length c2, .bool down, .bool cut, .int .i64 left] : List Value).toArray, .int .i64 x.2.1, .slice A7 b0.length c7] (by rfl) rfl rfl (by (try simp only [List.map_toArray, List.map_cons, List.map_nil]); first | done | rfl) ?_
  refine (HT7.out.rf.Put x.2.1 A7 c7 b0 HC7.out HL7.out HFI.out.left_ (by have := HFI.out.short; have := HI100.out; omega) (by have := HFI.out.badl; omega)).mono ?_
  rintro e w8 ⟨v, rfl, hp⟩
  rw [HRS.out] at hp ⊢
  obtain ⟨D0, f0, D1, f1, D2, f2, rfl, ht, hb⟩ := HT7.out.rstep hp
  clear hp
  have HT8 := Aside0.mk ht
  have HB8 := Aside0.mk hb
  have HK48 := Aside0.mk (blk_below HK47.out hb)
  have HK58 := Aside0.mk (blk_below HK57.out hb)
  have HK68 := Aside0.mk (blk_below HK67.out hb)
  clear ht hb
  try clear hc0
  try clear hcf0
  try clear hz0
  try clear hzf0
  try clear ho0
  try clear hc1
  try clear hcf1
  try clear hz1
  try clear hzf1
  try clear ho1
  try clear hc2
  try clear hcf2
  try clear hz2
  try clear hzf2
  try clear ho2
  try clear hc3
  try clear hcf3
  try clear hz3
  try clear hzf3
  try clear ho3
  try clear hc4
  try clear hcf4
  try clear hz4
  try clear hzf4
  try clear ho4
  try clear hc5
  try clear hcf5
  try clear hz5
  try clear hzf5
  try clear ho5
  have hc0 : w8.cell? ⟨g4, 0, none⟩ = some (.slice A0 bl.length c0) := (blk_cell HK48.out 0).trans rfl
  have hcf0 : w8.frozen? ⟨g4, 0, none⟩ = false := blk_frozen HK48.out 0
  have hc1 : w8.cell? ⟨g4, 1, none⟩ = some (.slice A1 ws.length c1) := (blk_cell HK48.out 1).trans rfl
  have hcf1 : w8.frozen? ⟨g4, 1, none⟩ = false := blk_frozen HK48.out 1
  have hc2 : w8.cell? ⟨g4, 2, none⟩ = some (.slice A2 bad.length c2) := (blk_cell HK48.out 2).trans rfl
  have hcf2 : w8.frozen? ⟨g4, 2, none⟩ = false := blk_frozen HK48.out 2
  have hc3 : w8.cell? ⟨g4, 3, none⟩ = some (.bool down) := (blk_cell HK48.out 3).trans rfl
  have hcf3 : w8.frozen? ⟨g4, 3, none⟩ = false := blk_frozen HK48.out 3
  have hc4 : w8.cell? ⟨g4, 4, none⟩ = some (.bool cut) := (blk_cell HK48.out 4).trans rfl
  have hcf4 : w8.frozen? ⟨g4, 4, none⟩ = false := blk_frozen HK48.out 4
  have hc5 : w8.cell? ⟨g4, 5, none⟩ = some (.int .i64 left) := (blk_cell HK48.out 5).trans rfl
  have hcf5 : w8.frozen? ⟨g4, 5, none⟩ = false := blk_frozen HK48.out 5
  have hz0 : w8.cell? ⟨g6, 0, none⟩ = some (.slice none 0 0) := (blk_cell HK68.out 0).trans rfl
  have hzf0 : w8.frozen? ⟨g6, 0, none⟩ = false := blk_frozen HK68.out 0
  have hz1 : w8.cell? ⟨g6, 1, none⟩ = some (.slice none 0 0) := (blk_cell HK68.out 1).trans rfl
  have hzf1 : w8.frozen? ⟨g6, 1, none⟩ = false := blk_frozen HK68.out 1
  have hz2 : w8.cell? ⟨g6, 2, none⟩ = some (.slice none 0 0) := (blk_cell HK68.out 2).trans rfl
  have hzf2 : w8.frozen? ⟨g6, 2, none⟩ = false := blk_frozen HK68.out 2
  have hz3 : w8.cell? ⟨g6, 3, none⟩ = some (.bool false) := (blk_cell HK68.out 3).trans rfl
  have hzf3 : w8.frozen? ⟨g6, 3, none⟩ = false := blk_frozen HK68.out 3
  have hz4 : w8.cell? ⟨g6, 4, none⟩ = some (.bool false) := (blk_cell HK68.out 4).trans rfl
  have hzf4 : w8.frozen? ⟨g6, 4, none⟩ = false := blk_frozen HK68.out 4
  have hz5 : w8.cell? ⟨g6, 5, none⟩ = some (.int .i64 0) := (blk_cell HK68.out 5).trans rfl
  have hzf5 : w8.frozen? ⟨g6, 5, none⟩ = false := blk_frozen HK68.out 5
  refine ⟨.tuple #[.agg #[.slice D0 bl.length f0, .slice D1 rws.length f1, .slice D2 bad.length f2, .bool rdn, .bool cut, .int .i64 rlf], .int .i64 rc], rfl, ?_⟩
  refine hKq.out _ _ ⟨(HOC.out w8 HK58.out).1, (HOC.out w8 HK58.out).2, cells_of_blk (cs := ([.slice A0 bl.length c0, .slice A1 ws.length c1, .slice A2 bad.length c2, .bool down, .bool cut, .int .i64 left] : List Value)) HK48.out⟩ (fun hHeld => ?_)
  clear hKq Kq
  refine norm_ (a' := ?_) ?_ ?_
  rotate_left
  · show Act.put _ (some 27) _ = _
    simp only [Act.put, List.setIfInBounds_toArray, List.set_cons_zero, List.set_cons_succ, i64_w, i32_w]
    rfl
  refine pure_ (i := 6) (N := some 21) (v := ?_) (a' := ?_) #[true, true, true, true, true, true, true, false, false, false, false] rfl rfl (any_of HT_.out (by kernel_rfl)) (fun _ _ _ h => h) (Or.inl ⟨by rfl, ?_⟩) ?_ ?_
  rotate_left
  · intro w'
    go_simp
    with_reducible rfl
  rotate_left
  · simp only [Act.put, List.setIfInBounds_toArray, List.set_cons_zero, List.set_cons_succ, i64_w, i32_w]
    rfl
  refine pure_ (i := 7) (N := some 28) (v := ?_) (a' := ?_) #[true, true, true, true, true, true, true, true, false, false, false] rfl rfl (any_of HT_.out (by kernel_rfl)) (fun _ _ _ h => h) (Or.inl ⟨by rfl, ?_⟩) ?_ ?_
  rotate_left
  · intro w'
    go_simp
    with_reducible rfl
  rotate_left
  · simp only [Act.put, List.setIfInBounds_toArray, List.set_cons_zero, List.set_cons_succ, i64_w, i32_w]
    rfl
  refine pure_ (i := 8) (N := some 29) (v := ?_) (a' := ?_) #[true, true, true, true, true, true, true, true, true, false, false] rfl rfl (any_of HT_.out (by kernel_rfl)) (fun _ _ _ h => h) (Or.inl ⟨by rfl, ?_⟩) ?_ ?_
  rotate_left
  · intro w'
    go_simp
    with_reducible rfl
  rotate_left
  · simp only [Act.put, List.setIfInBounds_toArray, List.set_cons_zero, List.set_cons_succ, i64_w, i32_w]
    rfl
  refine last_ (i := 9) (N := none) #[true, true, true, true, true, true, true, true, true, true, false] rfl rfl (one_of HT_.out (by kernel_rfl)) (by decide) (fun Kq hKq => ?_)
  refine skip_ (w1 := ?_) (by rfl) rfl ?_ ?_
  rotate_left
  · go_simp
    rfl
  refine hKq.out _ _ ?_
  clear hKq Kq
  refine pure_ (i := 10) (N := some 8) (v := ?_) (a' := ?_) #[true, true, true, true, true, true, true, true, true, true, true] rfl rfl (any_of HT_.out (by kernel_rfl)) (fun _ _ _ h => h) (Or.inl ⟨by rfl, ?_⟩) ?_ ?_
  rotate_left
  · intro w'
    go_simp
    with_reducible rfl
  rotate_left
  · simp only [Act.put, List.setIfInBounds_toArray, List.set_cons_zero, List.set_cons_succ, i64_w, i32_w]
    rfl
  refine done_ (done_of HT_.out (by kernel_rfl)) ?_
  go_wp2
  have hgs := HGS.out
  have hM := HM.out
  refine bodyPost_ret (results_ct rfl _ _ g6 102 #[.slice D0 bl.length f0, .slice D1 rws.length f1, .slice D2 bad.length f2, .bool rdn, .bool cut, .int .i64 rlf] (0, 0) _ rfl (set6_blk ((show (set6 w8 g4 _ _ _ _ _ _).heap[g6]? = _ from (set6_far HNE.out _ _ _ _ _ _).trans HK68.out)) rfl _ _ _ _ _ _) Try.underlying102 rfl (by kernel_rfl)) rfl ?_
  refine ⟨_, _, _, _, _, _, _, _, _, rfl, (((HT8.out.out1 HK48.out hgs.1 (Nat.lt_trans hgs.2.2.2.1 (Nat.lt_trans hgs.2.2.2.2.1 hgs.2.2.2.2.2)) hM _ _ _ _ _ _).out1 (show (set6 w8 g4 _ _ _ _ _ _).heap[g6]? = _ from (set6_far HNE.out _ _ _ _ _ _).trans HK68.out) hgs.2.2.1 hgs.2.2.2.2.2 hM _ _ _ _ _ _).all), HFI2.out, set6_below (set6_below (((((HB3.out.mono HBW.out).trans (HB35.out.mono (Nat.le_trans HBW.out HB3.out.size))).trans HS6.out.below).trans (HB67.out.mono (show B ≤ w6.heap.size from by have := HT6.out.st.gB; omega))).trans (HB8.out.mono (show B ≤ w7.heap.size from by have := HT7.out.st.gB; omega))) (Nat.le_trans HBW.out hgs.1) _ _ _ _ _ _) (Nat.le_trans HBW.out hgs.2.2.1) _ _ _ _ _ _, kept_set6 (kept_set6 (((((Kept.of_below HB3.out (Mut B M0 g dv wv)).below HB35.out).then_ HS6.out.kept (fun k hk => .inl hk)).below HB67.out).below HB8.out) hgs.1 _ _ _ _ _ _) hgs.2.2.1 _ _ _ _ _ _⟩
theorem Do_calls {Q : Nat → Prop} {B M0 g nb i : Nat} {bv dv wv v0 v1 v2 : Value} {bl : List (List Int)} {ws : List S183} {bad : List Int} {down cut : Bool} {left : Int} {w : World} (t : Two B M0 g bv dv wv bl (ws.map toW) bad down (dl cut left) Q v0 v1 v2 bl ws w) (fi : Fit nb i bl ws bad left) (hi : i ≤ 100) (hnb : nb ≤ 300) (x : DOp) (Ax : Option Addr) (cx : Nat) (hx2 : x.2.1 ≤ 9223372036854775807) (hxp : Kd.F (Kd.int .i64) w (fun k => k < B) Ax x.2.2.2.2.2.length x.2.2.2.2.2) (hxl : x.2.2.2.2.2.length ≤ cx) : Calls Try.prog 52 #[.pointer (some ⟨g, 0, none⟩), .agg (stC v0 v1 v2 down cut left), .agg (opC x Ax cx).toArray] w (DoPost B M0 g bv dv wv bad nb (i + 1) Q w) := by
  by_cases h0 : x.1 = 0
  · exact Do_write t fi hi hnb x Ax cx h0 hxp hxl
  by_cases h1 : x.1 = 1
  · exact Do_sync t fi hi hnb x Ax cx h1
  by_cases h2 : x.1 = 2
  · exact Do_cut t fi hi hnb x Ax cx h2 hx2
  exact Do_crash t fi hi hnb x Ax cx ⟨h0, h1, h2⟩ hxp hxl

end Go.Proofs.Ytdbfclfglpbpmaa.Dsk
