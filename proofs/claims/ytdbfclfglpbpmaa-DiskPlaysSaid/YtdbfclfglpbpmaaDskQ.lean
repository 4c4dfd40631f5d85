/- The document's Sync. No condition. -/
import Derived.Test.YtdbfclfglpbpmaaDskP
namespace Go.Proofs.Ytdbfclfglpbpmaa.Dsk
open Go.AnyFacts Go.Proofs.Ytdbfclfglpbpmaa.Sha Go.RowKit Go.Proofs.YtdbfclfglpbpmaaW.Hand Go.Proofs.YtdbfclfglpbpmaaW.PrintWords Go.Proofs.YtdbfclfglpbpmaaW.PrintLast Go.Proofs.YtdbfclfglpbpmaaW.PrintMore Go.Proofs.Ytdbfclfglpbpmaa.PF21 Go.Proofs.Ytdbfclfglpbpmaa.Base Go.Proofs.Ytdbfclfglpbpmaa.LF21
attribute [local go_sem] max2_int min2_int max_two min_two max_three min_three max_four min_four
set_option linter.unusedVariables false
set_option linter.unusedSimpArgs false

def toW (x : S183) : S154 := ⟨x.f0, x.f1⟩
/-- What Sync comes to, as the document tells it. -/
def rSync (bl : List (List Int)) (ws : List S183) (down cut : Bool) (left : Int) : Int × List (List Int) × List S183 × Bool × Int :=
  if down then (19, bl, ws, down, left) else if (rstep down cut left).2.2 then (0, syncB (ws.map toW) bl, [], (rstep down cut left).1, (rstep down cut left).2.1) else (19, bl, ws, (rstep down cut left).1, (rstep down cut left).2.1)
theorem RSt.wats {P : Nat → Prop} {v0 v1 v2 : Value} {bl : List (List Int)} {ws : List S183} {bad : List Int} {w : World} (s : RSt P v0 v1 v2 bl ws bad w) (i : Nat) (hi : i < ws.length) (f : Int) (b : List Int) (hf : ws[i].f0 = f) (hb : ws[i].f1 = b) (h256 : b.length = 256) : ∃ ad cap A c, v1 = .slice (some ad) ws.length cap ∧ (∀ (j : Nat) (v : Value), ([.int .i64 f, .slice (some A) 256 c] : List Value)[j]? = some v → w.cell? ((ad.add (i * 2)).add j) = some v) ∧ 256 ≤ c ∧ Kd.C (Kd.int .u8) w (some A) 256 b := by
  obtain ⟨A0, c0, e⟩ := Kd.V_slice s.q
  have hV := s.q
  rw [e] at hV
  obtain ⟨ad, A, c, e1, h1, h2, h3, h4⟩ := at_T183 (Kd.F_now (Kd.V_F hV)) (i : Int) (by omega) (by omega)
  rw [show rd_T183 ws (i : Int) = ws[i] from rdl _ hi] at h1 h2 h3 h4
  rw [hb, h256] at h2 h3 h4
  rw [hf] at h1
  obtain ⟨a, rfl, _⟩ := h4.2.2 (by omega)
  subst e1
  refine ⟨ad, c0, a, c, e, fun j v hj => ?_, h3, h4⟩
  rcases j with _ | _ | j
  · have : v = .int .i64 f := by simpa using hj.symm
    subst this
    rw [show (ad.add (i * 2)).add 0 = ad.add (i * 2) from by simp [Addr.add]]
    exact h1
  · have : v = .slice (some a) 256 c := by simpa using hj.symm
    subst this
    rw [show (ad.add (i * 2)).add 1 = ⟨(ad.add (i * 2)).block, (ad.add (i * 2)).off + 1, none⟩ from by simp [Addr.add]]
    exact h2
  · simp at hj
/-- In the document's loops: the state in its box, behind some steps. -/
structure RLp (P : Nat → Prop) (w w2 : World) (g3 g6 : Nat) (v0 v1 v2 : Value) (down cut : Bool) (left : Int) (cur : List (List Int)) (ws : List S183) (bad : List Int) (wr : World) : Prop where
  st : RSt (Off P w.heap.size w2.heap.size) v0 v1 v2 cur ws bad wr
  box : wr.heap[g3]? = some (.cells #[v0, v1, v2, .bool down, .bool cut, .int .i64 left] 102 (0, 0))
  res : wr.heap[g6]? = some (.cells #[.slice none 0 0, .slice none 0 0, .slice none 0 0, .bool false, .bool false, .int .i64 0] 102 (0, 0))
  below : Below w.heap.size w wr
  new : w2.heap.size ≤ wr.heap.size
theorem RLp.later {P : Nat → Prop} {w w2 : World} {g3 g6 : Nat} {v0 v1 v2 : Value} {down cut : Bool} {left : Int} {cur : List (List Int)} {ws : List S183} {bad : List Int} {wr w1 : World} (h : RLp P w w2 g3 g6 v0 v1 v2 down cut left cur ws bad wr) (hb : Below wr.heap.size wr w1) : RLp P w w2 g3 g6 v0 v1 v2 down cut left cur ws bad w1 :=
  ⟨h.st.below hb, blk_below h.box hb, blk_below h.res hb, below_step h.below hb, Nat.le_trans h.new hb.size⟩
/-- The state is laid anew in its box. -/
theorem RLp.set {P : Nat → Prop} {w w2 : World} {g3 g6 : Nat} {v0 v1 v2 u0 u1 u2 : Value} {down cut : Bool} {left : Int} {down' cut' : Bool} {left' : Int} {cur cur' : List (List Int)} {ws ws' : List S183} {bad : List Int} {wr : World} (h : RLp P w w2 g3 g6 v0 v1 v2 down cut left cur ws bad wr) (hs : RSt (Off P w.heap.size w2.heap.size) u0 u1 u2 cur' ws' bad wr) (hg : w.heap.size ≤ g3 ∧ g3 < w2.heap.size ∧ g3 ≠ g6) : RLp P w w2 g3 g6 u0 u1 u2 down' cut' left' cur' ws' bad (set6 wr g3 u0 u1 u2 (.bool down') (.bool cut') (.int .i64 left')) :=
  ⟨hs.offs (fun k hk => set6_far (hk.ne hg.1 hg.2.1) _ _ _ _ _ _), set6_blk h.box rfl _ _ _ _ _ _, (set6_far (fun e => hg.2.2 e.symm) _ _ _ _ _ _).trans h.res, set6_below h.below hg.1 _ _ _ _ _ _, by rw [set6_size]; exact h.new⟩
set_option maxHeartbeats 8000000 in
set_option maxRecDepth 100000 in
theorem RSt.Sync_down {P : Nat → Prop} {v0 v1 v2 : Value} {bl : List (List Int)} {ws : List S183} {bad : List Int} {down cut : Bool} {left : Int} {w : World} (s : RSt P v0 v1 v2 bl ws bad w) (hd : down = true) : Calls Try.prog 81 #[.agg (stC v0 v1 v2 down cut left)] w fun e w' => ∃ v, e = .returned (.tuple #[v, .int .i64 (rSync bl ws down cut left).1]) ∧ RPost P w (rSync bl ws down cut left).2.1 (rSync bl ws down cut left).2.2.1 bad (rSync bl ws down cut left).2.2.2.1 cut (rSync bl ws down cut left).2.2.2.2 v w' := by
  have hR : rSync bl ws down cut left = (19, bl, ws, true, left) := by unfold rSync; rw [hd]; rfl
  rw [hR]
  obtain ⟨A0, c0, rfl⟩ := Kd.V_slice s.b
  obtain ⟨A1, c1, rfl⟩ := Kd.V_slice s.q
  obtain ⟨A2, c2, rfl⟩ := Kd.V_slice s.d
  have HS := Aside0.mk s
  clear s hR
  subst hd
  go_enter Try.func81, Try.ntmps81
  go_wp2_with (first
    | ((with_reducible refine gate_dst (N := 1) rfl ?_); refine L_box rfl 102 (.tmp 0) rfl (.agg #[.slice A0 bl.length c0, .slice A1 ws.length c1, .slice A2 bad.length c2, .bool true, .bool cut, .int .i64 left]) rfl ?_; intro g3 w1 hb hg hs hl; have HKg3 := Aside0.mk hb; have HGg3 := Aside0.mk hg; have HLg3 := Aside0.mk hl; clear hb hg hs hl)
    | ((with_reducible refine gate_dst (N := 2) rfl ?_); refine L_alloc rfl 102 rfl (.agg #[.slice none 0 0, .slice none 0 0, .slice none 0 0, .bool false, .bool false, .int .i64 0]) 6 (by kernel_rfl) ?_; intro g6 w2 hb hg hs hl; have HKg6 := Aside0.mk hb; have HGg6 := Aside0.mk hg; have HLg6 := Aside0.mk hl; clear hb hg hs hl; have HB2 := Aside0.mk (below_step HLg3.out HLg6.out); have HK32 := Aside0.mk (blk_below HKg3.out HLg6.out); have HGS := Aside0.mk (show w.heap.size ≤ g3 ∧ w.heap.size ≤ g6 ∧ g3 < g6 ∧ g6 < w2.heap.size from by have h1 := HGg3.out; have h3 := HGg6.out; have h4 := blk_lt HKg3.out; have h6 := blk_lt HKg6.out; omega); have hne1 : g3 ≠ g6 := (by have := HGS.out; omega); have hne2 : g6 ≠ g3 := (fun e => hne1 e.symm); have HNE := Aside0.mk hne2; have HSO := Aside0.mk ((HS.out.off w2.heap.size).below HB2.out); have hc0 : w2.cell? ⟨g3, 0, none⟩ = some (.slice A0 bl.length c0) := (blk_cell HK32.out 0).trans rfl; have hcf0 : w2.frozen? ⟨g3, 0, none⟩ = false := blk_frozen HK32.out 0; have hc1 : w2.cell? ⟨g3, 1, none⟩ = some (.slice A1 ws.length c1) := (blk_cell HK32.out 1).trans rfl; have hcf1 : w2.frozen? ⟨g3, 1, none⟩ = false := blk_frozen HK32.out 1; have hc2 : w2.cell? ⟨g3, 2, none⟩ = some (.slice A2 bad.length c2) := (blk_cell HK32.out 2).trans rfl; have hcf2 : w2.frozen? ⟨g3, 2, none⟩ = false := blk_frozen HK32.out 2; have hc3 : w2.cell? ⟨g3, 3, none⟩ = some (.bool true) := (blk_cell HK32.out 3).trans rfl; have hcf3 : w2.frozen? ⟨g3, 3, none⟩ = false := blk_frozen HK32.out 3; have hc4 : w2.cell? ⟨g3, 4, none⟩ = some (.bool cut) := (blk_cell HK32.out 4).trans rfl; have hcf4 : w2.frozen? ⟨g3, 4, none⟩ = false := blk_frozen HK32.out 4; have hc5 : w2.cell? ⟨g3, 5, none⟩ = some (.int .i64 left) := (blk_cell HK32.out 5).trans rfl; have hcf5 : w2.frozen? ⟨g3, 5, none⟩ = false := blk_frozen HK32.out 5; have hz0 : w2.cell? ⟨g6, 0, none⟩ = some (.slice none 0 0) := (blk_cell HKg6.out 0).trans rfl; have hzf0 : w2.frozen? ⟨g6, 0, none⟩ = false := blk_frozen HKg6.out 0; have hz1 : w2.cell? ⟨g6, 1, none⟩ = some (.slice none 0 0) := (blk_cell HKg6.out 1).trans rfl; have hzf1 : w2.frozen? ⟨g6, 1, none⟩ = false := blk_frozen HKg6.out 1; have hz2 : w2.cell? ⟨g6, 2, none⟩ = some (.slice none 0 0) := (blk_cell HKg6.out 2).trans rfl; have hzf2 : w2.frozen? ⟨g6, 2, none⟩ = false := blk_frozen HKg6.out 2; have hz3 : w2.cell? ⟨g6, 3, none⟩ = some (.bool false) := (blk_cell HKg6.out 3).trans rfl; have hzf3 : w2.frozen? ⟨g6, 3, none⟩ = false := blk_frozen HKg6.out 3; have hz4 : w2.cell? ⟨g6, 4, none⟩ = some (.bool false) := (blk_cell HKg6.out 4).trans rfl; have hzf4 : w2.frozen? ⟨g6, 4, none⟩ = false := blk_frozen HKg6.out 4; have hz5 : w2.cell? ⟨g6, 5, none⟩ = some (.int .i64 0) := (blk_cell HKg6.out 5).trans rfl; have hzf5 : w2.frozen? ⟨g6, 5, none⟩ = false := blk_frozen HKg6.out 5))
  go_wp2
  refine bodyPost_ret (results_ct rfl _ _ g6 102 (stC (.slice A0 bl.length c0) (.slice A1 ws.length c1) (.slice A2 bad.length c2) true cut (left)) (0, 0) _ rfl (set6_blk (HKg6.out) rfl _ _ _ _ _ _) Try.underlying102 rfl (by kernel_rfl)) rfl ?_
  have hgs := HGS.out
  refine ⟨_, rfl, _, _, _, rfl, (HSO.out).fin (by omega) (fun k hk => set6_far (hk.ne hgs.2.1 hgs.2.2.2) _ _ _ _ _ _), set6_below HB2.out hgs.2.1 _ _ _ _ _ _⟩
def Dq81_9.T : Bool × List (List Nat × List Nat) := (true, [([], []), ([], []), ([1], [1]), ([], []), ([2, 3], [2, 3]), ([4], [4]), ([0, 5], [0, 5]), ([6, 6, 0, 1, 2, 3, 4, 5, 6], [6])])
def Dq81_9.B : List Nat := [0, 0, 2, 0, 14, 30, 63, 127]
theorem Dq81_9.tab : rtab .any (opsOf Try.f81 9) = Dq81_9.T := by kernel_rfl
theorem Dq81_9.bits : waitsOk Dq81_9.T.2 Dq81_9.B = true := by kernel_rfl
set_option maxHeartbeats 8000000 in
set_option maxRecDepth 100000 in
theorem RSt.Sync_main {P : Nat → Prop} {v0 v1 v2 : Value} {bl : List (List Int)} {ws : List S183} {bad : List Int} {down cut : Bool} {left : Int} {w : World} (s : RSt P v0 v1 v2 bl ws bad w) (hd : down = false) (hl : 0 ≤ left ∧ left ≤ 9223372036854775807) (hwf : WFd bl (ws.map toW)) (hwl : ws.length ≤ 1000) (hblm : bl.length ≤ 1000) : Calls Try.prog 81 #[.agg (stC v0 v1 v2 down cut left)] w fun e w' => ∃ v, e = .returned (.tuple #[v, .int .i64 (rSync bl ws down cut left).1]) ∧ RPost P w (rSync bl ws down cut left).2.1 (rSync bl ws down cut left).2.2.1 bad (rSync bl ws down cut left).2.2.2.1 cut (rSync bl ws down cut left).2.2.2.2 v w' := by
  obtain ⟨dn, lf, okb, hrs⟩ : ∃ dn lf okb, rstep false cut left = (dn, lf, okb) := ⟨_, _, _, rfl⟩
  have hR : rSync bl ws down cut left = if okb then (0, syncB (ws.map toW) bl, [], dn, lf) else (19, bl, ws, dn, lf) := by unfold rSync; rw [hd, hrs]; rfl
  rw [hR]
  obtain ⟨A0, c0, rfl⟩ := Kd.V_slice s.b
  obtain ⟨A1, c1, rfl⟩ := Kd.V_slice s.q
  obtain ⟨A2, c2, rfl⟩ := Kd.V_slice s.d
  have HS := Aside0.mk s
  clear s hR
  subst hd
  have HRS := Aside0.mk hrs
  have HL := Aside0.mk hl
  have HWSL := Aside0.mk hwl
  have HWF := Aside0.mk hwf
  have HBLM := Aside0.mk hblm
  clear hl hwl hwf hblm hrs
  cases okb with
  | false =>
    go_enter Try.func81, Try.ntmps81
    go_wp2_with (first
      | ((with_reducible refine gate_dst (N := 1) rfl ?_); refine L_box rfl 102 (.tmp 0) rfl (.agg #[.slice A0 bl.length c0, .slice A1 ws.length c1, .slice A2 bad.length c2, .bool false, .bool cut, .int .i64 left]) rfl ?_; intro g3 w1 hb hg hs hl; have HKg3 := Aside0.mk hb; have HGg3 := Aside0.mk hg; have HLg3 := Aside0.mk hl; clear hb hg hs hl)
      | ((with_reducible refine gate_dst (N := 2) rfl ?_); refine L_alloc rfl 102 rfl (.agg #[.slice none 0 0, .slice none 0 0, .slice none 0 0, .bool false, .bool false, .int .i64 0]) 6 (by kernel_rfl) ?_; intro g6 w2 hb hg hs hl; have HKg6 := Aside0.mk hb; have HGg6 := Aside0.mk hg; have HLg6 := Aside0.mk hl; clear hb hg hs hl; have HB2 := Aside0.mk (below_step HLg3.out HLg6.out); have HK32 := Aside0.mk (blk_below HKg3.out HLg6.out); have HGS := Aside0.mk (show w.heap.size ≤ g3 ∧ w.heap.size ≤ g6 ∧ g3 < g6 ∧ g6 < w2.heap.size from by have h1 := HGg3.out; have h3 := HGg6.out; have h4 := blk_lt HKg3.out; have h6 := blk_lt HKg6.out; omega); have hne1 : g3 ≠ g6 := (by have := HGS.out; omega); have hne2 : g6 ≠ g3 := (fun e => hne1 e.symm); have HNE := Aside0.mk hne2; have HSO := Aside0.mk ((HS.out.off w2.heap.size).below HB2.out); have hc0 : w2.cell? ⟨g3, 0, none⟩ = some (.slice A0 bl.length c0) := (blk_cell HK32.out 0).trans rfl; have hcf0 : w2.frozen? ⟨g3, 0, none⟩ = false := blk_frozen HK32.out 0; have hc1 : w2.cell? ⟨g3, 1, none⟩ = some (.slice A1 ws.length c1) := (blk_cell HK32.out 1).trans rfl; have hcf1 : w2.frozen? ⟨g3, 1, none⟩ = false := blk_frozen HK32.out 1; have hc2 : w2.cell? ⟨g3, 2, none⟩ = some (.slice A2 bad.length c2) := (blk_cell HK32.out 2).trans rfl; have hcf2 : w2.frozen? ⟨g3, 2, none⟩ = false := blk_frozen HK32.out 2; have hc3 : w2.cell? ⟨g3, 3, none⟩ = some (.bool false) := (blk_cell HK32.out 3).trans rfl; have hcf3 : w2.frozen? ⟨g3, 3, none⟩ = false := blk_frozen HK32.out 3; have hc4 : w2.cell? ⟨g3, 4, none⟩ = some (.bool cut) := (blk_cell HK32.out 4).trans rfl; have hcf4 : w2.frozen? ⟨g3, 4, none⟩ = false := blk_frozen HK32.out 4; have hc5 : w2.cell? ⟨g3, 5, none⟩ = some (.int .i64 left) := (blk_cell HK32.out 5).trans rfl; have hcf5 : w2.frozen? ⟨g3, 5, none⟩ = false := blk_frozen HK32.out 5; have hz0 : w2.cell? ⟨g6, 0, none⟩ = some (.slice none 0 0) := (blk_cell HKg6.out 0).trans rfl; have hzf0 : w2.frozen? ⟨g6, 0, none⟩ = false := blk_frozen HKg6.out 0; have hz1 : w2.cell? ⟨g6, 1, none⟩ = some (.slice none 0 0) := (blk_cell HKg6.out 1).trans rfl; have hzf1 : w2.frozen? ⟨g6, 1, none⟩ = false := blk_frozen HKg6.out 1; have hz2 : w2.cell? ⟨g6, 2, none⟩ = some (.slice none 0 0) := (blk_cell HKg6.out 2).trans rfl; have hzf2 : w2.frozen? ⟨g6, 2, none⟩ = false := blk_frozen HKg6.out 2; have hz3 : w2.cell? ⟨g6, 3, none⟩ = some (.bool false) := (blk_cell HKg6.out 3).trans rfl; have hzf3 : w2.frozen? ⟨g6, 3, none⟩ = false := blk_frozen HKg6.out 3; have hz4 : w2.cell? ⟨g6, 4, none⟩ = some (.bool false) := (blk_cell HKg6.out 4).trans rfl; have hzf4 : w2.frozen? ⟨g6, 4, none⟩ = false := blk_frozen HKg6.out 4; have hz5 : w2.cell? ⟨g6, 5, none⟩ = some (.int .i64 0) := (blk_cell HKg6.out 5).trans rfl; have hzf5 : w2.frozen? ⟨g6, 5, none⟩ = false := blk_frozen HKg6.out 5; have HSR := HSO; have HBR := HB2; have HB23 := Aside0.mk (Below.refl w2.heap.size w2); have HRW := HB23; have HK3R := HK32; have HK6R := HKg6)
      | (go_at_call 104; refine (HSR.out.step' HL.out HRS.out).mono ?_; rintro e w5 ⟨B0, d0, B1, d1, B2, d2, rfl, h, hb⟩; have HB5 := Aside0.mk (below_step HBR.out hb); have HS5 := Aside0.mk (h.mono (fun k hk => Off.more (Nat.le_trans HB23.out.size HRW.out.size) hk)); have HK35 := Aside0.mk (blk_below HK3R.out hb); have HK65 := Aside0.mk (blk_below HK6R.out hb); have HN5 := Aside0.mk (show w2.heap.size ≤ w5.heap.size from Nat.le_trans HB23.out.size (Nat.le_trans HRW.out.size hb.size)); clear hc0 hcf0 hz0 hzf0 hc1 hcf1 hz1 hzf1 hc2 hcf2 hz2 hzf2 hc3 hcf3 hz3 hzf3 hc4 hcf4 hz4 hzf4 hc5 hcf5 hz5 hzf5; have hc0 : w5.cell? ⟨g3, 0, none⟩ = some (.slice A0 bl.length c0) := (blk_cell HK35.out 0).trans rfl; have hcf0 : w5.frozen? ⟨g3, 0, none⟩ = false := blk_frozen HK35.out 0; have hc1 : w5.cell? ⟨g3, 1, none⟩ = some (.slice A1 ws.length c1) := (blk_cell HK35.out 1).trans rfl; have hcf1 : w5.frozen? ⟨g3, 1, none⟩ = false := blk_frozen HK35.out 1; have hc2 : w5.cell? ⟨g3, 2, none⟩ = some (.slice A2 bad.length c2) := (blk_cell HK35.out 2).trans rfl; have hcf2 : w5.frozen? ⟨g3, 2, none⟩ = false := blk_frozen HK35.out 2; have hc3 : w5.cell? ⟨g3, 3, none⟩ = some (.bool false) := (blk_cell HK35.out 3).trans rfl; have hcf3 : w5.frozen? ⟨g3, 3, none⟩ = false := blk_frozen HK35.out 3; have hc4 : w5.cell? ⟨g3, 4, none⟩ = some (.bool cut) := (blk_cell HK35.out 4).trans rfl; have hcf4 : w5.frozen? ⟨g3, 4, none⟩ = false := blk_frozen HK35.out 4; have hc5 : w5.cell? ⟨g3, 5, none⟩ = some (.int .i64 left) := (blk_cell HK35.out 5).trans rfl; have hcf5 : w5.frozen? ⟨g3, 5, none⟩ = false := blk_frozen HK35.out 5; have hz0 : w5.cell? ⟨g6, 0, none⟩ = some (.slice none 0 0) := (blk_cell HK65.out 0).trans rfl; have hzf0 : w5.frozen? ⟨g6, 0, none⟩ = false := blk_frozen HK65.out 0; have hz1 : w5.cell? ⟨g6, 1, none⟩ = some (.slice none 0 0) := (blk_cell HK65.out 1).trans rfl; have hzf1 : w5.frozen? ⟨g6, 1, none⟩ = false := blk_frozen HK65.out 1; have hz2 : w5.cell? ⟨g6, 2, none⟩ = some (.slice none 0 0) := (blk_cell HK65.out 2).trans rfl; have hzf2 : w5.frozen? ⟨g6, 2, none⟩ = false := blk_frozen HK65.out 2; have hz3 : w5.cell? ⟨g6, 3, none⟩ = some (.bool false) := (blk_cell HK65.out 3).trans rfl; have hzf3 : w5.frozen? ⟨g6, 3, none⟩ = false := blk_frozen HK65.out 3; have hz4 : w5.cell? ⟨g6, 4, none⟩ = some (.bool false) := (blk_cell HK65.out 4).trans rfl; have hzf4 : w5.frozen? ⟨g6, 4, none⟩ = false := blk_frozen HK65.out 4; have hz5 : w5.cell? ⟨g6, 5, none⟩ = some (.int .i64 0) := (blk_cell HK65.out 5).trans rfl; have hzf5 : w5.frozen? ⟨g6, 5, none⟩ = false := blk_frozen HK65.out 5; have HS6 := Aside0.mk (RSt.offs (w' := (set6 w5 g3 (.slice B0 bl.length d0) (.slice B1 ws.length d1) (.slice B2 bad.length d2) (.bool dn) (.bool cut) (.int .i64 lf))) HS5.out (fun k hk => set6_far (hk.ne HGS.out.1 (by have := HGS.out; omega)) _ _ _ _ _ _)); have HB6 := Aside0.mk (set6_below HB5.out HGS.out.1 (.slice B0 bl.length d0) (.slice B1 ws.length d1) (.slice B2 bad.length d2) (.bool dn) (.bool cut) (.int .i64 lf)); have HK36 := Aside0.mk (set6_blk HK35.out rfl (.slice B0 bl.length d0) (.slice B1 ws.length d1) (.slice B2 bad.length d2) (.bool dn) (.bool cut) (.int .i64 lf)); have HK66 := Aside0.mk (show ((set6 w5 g3 (.slice B0 bl.length d0) (.slice B1 ws.length d1) (.slice B2 bad.length d2) (.bool dn) (.bool cut) (.int .i64 lf))).heap[g6]? = _ from (set6_far HNE.out _ _ _ _ _ _).trans HK65.out); have HN6 := Aside0.mk (show w2.heap.size ≤ ((set6 w5 g3 (.slice B0 bl.length d0) (.slice B1 ws.length d1) (.slice B2 bad.length d2) (.bool dn) (.bool cut) (.int .i64 lf))).heap.size from by rw [set6_size]; exact HN5.out); clear h hb))
    go_wp2
    refine bodyPost_ret (results_ct rfl _ _ g6 102 (stC (.slice B0 bl.length d0) (.slice B1 ws.length d1) (.slice B2 bad.length d2) dn cut (lf)) (0, 0) _ rfl (set6_blk (HK66.out) rfl _ _ _ _ _ _) Try.underlying102 rfl (by kernel_rfl)) rfl ?_
    have hgs := HGS.out
    refine ⟨_, rfl, _, _, _, rfl, (HS6.out).fin (by omega) (fun k hk => set6_far (hk.ne hgs.2.1 hgs.2.2.2) _ _ _ _ _ _), set6_below HB6.out hgs.2.1 _ _ _ _ _ _⟩
  | true =>
    go_enter Try.func81, Try.ntmps81
    go_wp2_with (first
      | ((with_reducible refine gate_dst (N := 1) rfl ?_); refine L_box rfl 102 (.tmp 0) rfl (.agg #[.slice A0 bl.length c0, .slice A1 ws.length c1, .slice A2 bad.length c2, .bool false, .bool cut, .int .i64 left]) rfl ?_; intro g3 w1 hb hg hs hl; have HKg3 := Aside0.mk hb; have HGg3 := Aside0.mk hg; have HLg3 := Aside0.mk hl; clear hb hg hs hl)
      | ((with_reducible refine gate_dst (N := 2) rfl ?_); refine L_alloc rfl 102 rfl (.agg #[.slice none 0 0, .slice none 0 0, .slice none 0 0, .bool false, .bool false, .int .i64 0]) 6 (by kernel_rfl) ?_; intro g6 w2 hb hg hs hl; have HKg6 := Aside0.mk hb; have HGg6 := Aside0.mk hg; have HLg6 := Aside0.mk hl; clear hb hg hs hl; have HB2 := Aside0.mk (below_step HLg3.out HLg6.out); have HK32 := Aside0.mk (blk_below HKg3.out HLg6.out); have HGS := Aside0.mk (show w.heap.size ≤ g3 ∧ w.heap.size ≤ g6 ∧ g3 < g6 ∧ g6 < w2.heap.size from by have h1 := HGg3.out; have h3 := HGg6.out; have h4 := blk_lt HKg3.out; have h6 := blk_lt HKg6.out; omega); have hne1 : g3 ≠ g6 := (by have := HGS.out; omega); have hne2 : g6 ≠ g3 := (fun e => hne1 e.symm); have HNE := Aside0.mk hne2; have HSO := Aside0.mk ((HS.out.off w2.heap.size).below HB2.out); have hc0 : w2.cell? ⟨g3, 0, none⟩ = some (.slice A0 bl.length c0) := (blk_cell HK32.out 0).trans rfl; have hcf0 : w2.frozen? ⟨g3, 0, none⟩ = false := blk_frozen HK32.out 0; have hc1 : w2.cell? ⟨g3, 1, none⟩ = some (.slice A1 ws.length c1) := (blk_cell HK32.out 1).trans rfl; have hcf1 : w2.frozen? ⟨g3, 1, none⟩ = false := blk_frozen HK32.out 1; have hc2 : w2.cell? ⟨g3, 2, none⟩ = some (.slice A2 bad.length c2) := (blk_cell HK32.out 2).trans rfl; have hcf2 : w2.frozen? ⟨g3, 2, none⟩ = false := blk_frozen HK32.out 2; have hc3 : w2.cell? ⟨g3, 3, none⟩ = some (.bool false) := (blk_cell HK32.out 3).trans rfl; have hcf3 : w2.frozen? ⟨g3, 3, none⟩ = false := blk_frozen HK32.out 3; have hc4 : w2.cell? ⟨g3, 4, none⟩ = some (.bool cut) := (blk_cell HK32.out 4).trans rfl; have hcf4 : w2.frozen? ⟨g3, 4, none⟩ = false := blk_frozen HK32.out 4; have hc5 : w2.cell? ⟨g3, 5, none⟩ = some (.int .i64 left) := (blk_cell HK32.out 5).trans rfl; have hcf5 : w2.frozen? ⟨g3, 5, none⟩ = false := blk_frozen HK32.out 5; have hz0 : w2.cell? ⟨g6, 0, none⟩ = some (.slice none 0 0) := (blk_cell HKg6.out 0).trans rfl; have hzf0 : w2.frozen? ⟨g6, 0, none⟩ = false := blk_frozen HKg6.out 0; have hz1 : w2.cell? ⟨g6, 1, none⟩ = some (.slice none 0 0) := (blk_cell HKg6.out 1).trans rfl; have hzf1 : w2.frozen? ⟨g6, 1, none⟩ = false := blk_frozen HKg6.out 1; have hz2 : w2.cell? ⟨g6, 2, none⟩ = some (.slice none 0 0) := (blk_cell HKg6.out 2).trans rfl; have hzf2 : w2.frozen? ⟨g6, 2, none⟩ = false := blk_frozen HKg6.out 2; have hz3 : w2.cell? ⟨g6, 3, none⟩ = some (.bool false) := (blk_cell HKg6.out 3).trans rfl; have hzf3 : w2.frozen? ⟨g6, 3, none⟩ = false := blk_frozen HKg6.out 3; have hz4 : w2.cell? ⟨g6, 4, none⟩ = some (.bool false) := (blk_cell HKg6.out 4).trans rfl; have hzf4 : w2.frozen? ⟨g6, 4, none⟩ = false := blk_frozen HKg6.out 4; have hz5 : w2.cell? ⟨g6, 5, none⟩ = some (.int .i64 0) := (blk_cell HKg6.out 5).trans rfl; have hzf5 : w2.frozen? ⟨g6, 5, none⟩ = false := blk_frozen HKg6.out 5; have HSR := HSO; have HBR := HB2; have HB23 := Aside0.mk (Below.refl w2.heap.size w2); have HRW := HB23; have HK3R := HK32; have HK6R := HKg6)
      | (go_at_call 104; refine (HSR.out.step' HL.out HRS.out).mono ?_; rintro e w5 ⟨B0, d0, B1, d1, B2, d2, rfl, h, hb⟩; have HB5 := Aside0.mk (below_step HBR.out hb); have HS5 := Aside0.mk (h.mono (fun k hk => Off.more (Nat.le_trans HB23.out.size HRW.out.size) hk)); have HK35 := Aside0.mk (blk_below HK3R.out hb); have HK65 := Aside0.mk (blk_below HK6R.out hb); have HN5 := Aside0.mk (show w2.heap.size ≤ w5.heap.size from Nat.le_trans HB23.out.size (Nat.le_trans HRW.out.size hb.size)); clear hc0 hcf0 hz0 hzf0 hc1 hcf1 hz1 hzf1 hc2 hcf2 hz2 hzf2 hc3 hcf3 hz3 hzf3 hc4 hcf4 hz4 hzf4 hc5 hcf5 hz5 hzf5; have hc0 : w5.cell? ⟨g3, 0, none⟩ = some (.slice A0 bl.length c0) := (blk_cell HK35.out 0).trans rfl; have hcf0 : w5.frozen? ⟨g3, 0, none⟩ = false := blk_frozen HK35.out 0; have hc1 : w5.cell? ⟨g3, 1, none⟩ = some (.slice A1 ws.length c1) := (blk_cell HK35.out 1).trans rfl; have hcf1 : w5.frozen? ⟨g3, 1, none⟩ = false := blk_frozen HK35.out 1; have hc2 : w5.cell? ⟨g3, 2, none⟩ = some (.slice A2 bad.length c2) := (blk_cell HK35.out 2).trans rfl; have hcf2 : w5.frozen? ⟨g3, 2, none⟩ = false := blk_frozen HK35.out 2; have hc3 : w5.cell? ⟨g3, 3, none⟩ = some (.bool false) := (blk_cell HK35.out 3).trans rfl; have hcf3 : w5.frozen? ⟨g3, 3, none⟩ = false := blk_frozen HK35.out 3; have hc4 : w5.cell? ⟨g3, 4, none⟩ = some (.bool cut) := (blk_cell HK35.out 4).trans rfl; have hcf4 : w5.frozen? ⟨g3, 4, none⟩ = false := blk_frozen HK35.out 4; have hc5 : w5.cell? ⟨g3, 5, none⟩ = some (.int .i64 left) := (blk_cell HK35.out 5).trans rfl; have hcf5 : w5.frozen? ⟨g3, 5, none⟩ = false := blk_frozen HK35.out 5; have hz0 : w5.cell? ⟨g6, 0, none⟩ = some (.slice none 0 0) := (blk_cell HK65.out 0).trans rfl; have hzf0 : w5.frozen? ⟨g6, 0, none⟩ = false := blk_frozen HK65.out 0; have hz1 : w5.cell? ⟨g6, 1, none⟩ = some (.slice none 0 0) := (blk_cell HK65.out 1).trans rfl; have hzf1 : w5.frozen? ⟨g6, 1, none⟩ = false := blk_frozen HK65.out 1; have hz2 : w5.cell? ⟨g6, 2, none⟩ = some (.slice none 0 0) := (blk_cell HK65.out 2).trans rfl; have hzf2 : w5.frozen? ⟨g6, 2, none⟩ = false := blk_frozen HK65.out 2; have hz3 : w5.cell? ⟨g6, 3, none⟩ = some (.bool false) := (blk_cell HK65.out 3).trans rfl; have hzf3 : w5.frozen? ⟨g6, 3, none⟩ = false := blk_frozen HK65.out 3; have hz4 : w5.cell? ⟨g6, 4, none⟩ = some (.bool false) := (blk_cell HK65.out 4).trans rfl; have hzf4 : w5.frozen? ⟨g6, 4, none⟩ = false := blk_frozen HK65.out 4; have hz5 : w5.cell? ⟨g6, 5, none⟩ = some (.int .i64 0) := (blk_cell HK65.out 5).trans rfl; have hzf5 : w5.frozen? ⟨g6, 5, none⟩ = false := blk_frozen HK65.out 5; have HS6 := Aside0.mk (RSt.offs (w' := (set6 w5 g3 (.slice B0 bl.length d0) (.slice B1 ws.length d1) (.slice B2 bad.length d2) (.bool dn) (.bool cut) (.int .i64 lf))) HS5.out (fun k hk => set6_far (hk.ne HGS.out.1 (by have := HGS.out; omega)) _ _ _ _ _ _)); have HB6 := Aside0.mk (set6_below HB5.out HGS.out.1 (.slice B0 bl.length d0) (.slice B1 ws.length d1) (.slice B2 bad.length d2) (.bool dn) (.bool cut) (.int .i64 lf)); have HK36 := Aside0.mk (set6_blk HK35.out rfl (.slice B0 bl.length d0) (.slice B1 ws.length d1) (.slice B2 bad.length d2) (.bool dn) (.bool cut) (.int .i64 lf)); have HK66 := Aside0.mk (show ((set6 w5 g3 (.slice B0 bl.length d0) (.slice B1 ws.length d1) (.slice B2 bad.length d2) (.bool dn) (.bool cut) (.int .i64 lf))).heap[g6]? = _ from (set6_far HNE.out _ _ _ _ _ _).trans HK65.out); have HN6 := Aside0.mk (show w2.heap.size ≤ ((set6 w5 g3 (.slice B0 bl.length d0) (.slice B1 ws.length d1) (.slice B2 bad.length d2) (.bool dn) (.bool cut) (.int .i64 lf))).heap.size from by rw [set6_size]; exact HN5.out); clear h hb))
    clear hc0 hcf0 hz0 hzf0 hc1 hcf1 hz1 hzf1 hc2 hcf2 hz2 hzf2 hc3 hcf3 hz3 hzf3 hc4 hcf4 hz4 hzf4 hc5 hcf5 hz5 hzf5
    have HRL0 := Aside0.mk (show RLp P w w2 g3 g6 (.slice B0 bl.length d0) (.slice B1 ws.length d1) (.slice B2 bad.length d2) dn cut lf bl ws bad (set6 w5 g3 (.slice B0 bl.length d0) (.slice B1 ws.length d1) (.slice B2 bad.length d2) (.bool dn) (.bool cut) (.int .i64 lf)) from ⟨HS6.out, HK36.out, HK66.out, HB6.out, HN6.out⟩)
    have HRL0 : Aside0 (RLp P w w2 g3 g6 (.slice B0 bl.length d0) (.slice B1 ws.length d1) (.slice B2 bad.length d2) dn cut lf bl ws bad ((((((w5.setCell ⟨g3, 0, none⟩ (.slice B0 bl.length d0)).setCell ⟨g3, 1, none⟩ (.slice B1 ws.length d1)).setCell ⟨g3, 2, none⟩ (.slice B2 bad.length d2)).setCell ⟨g3, 3, none⟩ (.bool dn)).setCell ⟨g3, 4, none⟩ (.bool cut)).setCell ⟨g3, 5, none⟩ (.int .i64 lf))) := HRL0
    generalize ((((((w5.setCell ⟨g3, 0, none⟩ (.slice B0 bl.length d0)).setCell ⟨g3, 1, none⟩ (.slice B1 ws.length d1)).setCell ⟨g3, 2, none⟩ (.slice B2 bad.length d2)).setCell ⟨g3, 3, none⟩ (.bool dn)).setCell ⟨g3, 4, none⟩ (.bool cut)).setCell ⟨g3, 5, none⟩ (.int .i64 lf)) = w6 at HRL0 ⊢
    clear HS6 HK36 HK66 HB6 HN6 HB5 HS5 HK35 HK65 HN5
    go_loopg [5] (ws.length + 1) (fun kq v5 wr => ∃ (z : Int) (i : Nat) (cur : List (List Int)) (C0 : Option Addr) (e0 : Nat), v5 = .int .i64 z ∧ Aside0 (z = (i : Int) ∧ i + kq = ws.length + 1 ∧ i ≤ ws.length) ∧ Aside0 (WFd cur (ws.map toW) ∧ syncB ((ws.map toW).drop i) cur = syncB (ws.map toW) bl ∧ cur.length ≤ 1000) ∧ Aside0 (RLp P w w2 g3 g6 (.slice C0 cur.length e0) (.slice B1 ws.length d1) (.slice B2 bad.length d2) dn cut lf cur ws bad wr))
    case atStart => exact ⟨0, 0, bl, _, _, rfl, ⟨rfl, by omega, by omega⟩, ⟨HWF.out, by rw [List.drop_zero], HBLM.out⟩, HRL0⟩
    case round =>
      obtain ⟨z, i, cur, C0, e0, rfl, HK, HW, HRL⟩ := hrel
      obtain ⟨hz, hk, hil⟩ := HK.out
      clear HRL0
      cases gk with
      | zero => omega
      | succ k1 =>
        have hc0 : wr.cell? ⟨g3, 0, none⟩ = some (.slice C0 cur.length e0) := (blk_cell HRL.out.box 0).trans rfl
        have hcf0 : wr.frozen? ⟨g3, 0, none⟩ = false := blk_frozen HRL.out.box 0
        have hc1 : wr.cell? ⟨g3, 1, none⟩ = some (.slice B1 ws.length d1) := (blk_cell HRL.out.box 1).trans rfl
        have hcf1 : wr.frozen? ⟨g3, 1, none⟩ = false := blk_frozen HRL.out.box 1
        have hc2 : wr.cell? ⟨g3, 2, none⟩ = some (.slice B2 bad.length d2) := (blk_cell HRL.out.box 2).trans rfl
        have hcf2 : wr.frozen? ⟨g3, 2, none⟩ = false := blk_frozen HRL.out.box 2
        have hc3 : wr.cell? ⟨g3, 3, none⟩ = some (.bool dn) := (blk_cell HRL.out.box 3).trans rfl
        have hcf3 : wr.frozen? ⟨g3, 3, none⟩ = false := blk_frozen HRL.out.box 3
        have hc4 : wr.cell? ⟨g3, 4, none⟩ = some (.bool cut) := (blk_cell HRL.out.box 4).trans rfl
        have hcf4 : wr.frozen? ⟨g3, 4, none⟩ = false := blk_frozen HRL.out.box 4
        have hc5 : wr.cell? ⟨g3, 5, none⟩ = some (.int .i64 lf) := (blk_cell HRL.out.box 5).trans rfl
        have hcf5 : wr.frozen? ⟨g3, 5, none⟩ = false := blk_frozen HRL.out.box 5
        by_cases hi : i < ws.length
        · have hib : decide (z < (ws.length : Int)) = true := decide_eq_true (by omega)
          obtain ⟨b, hb⟩ : ∃ b, ws[i].f1 = b := ⟨_, rfl⟩
          obtain ⟨f, hf⟩ : ∃ f, ws[i].f0 = f := ⟨_, rfl⟩
          have him : i < (ws.map toW).length := by rw [List.length_map]; exact hi
          have htw : (ws.map toW)[i] = toW ws[i] := List.getElem_map _
          obtain ⟨f0, f1, h256⟩ := HW.out.1.2 (toW ws[i]) (by rw [← htw]; exact List.getElem_mem him)
          rw [show (toW ws[i]).f0 = f from hf] at f0 f1
          rw [show (toW ws[i]).f1 = b from hb] at h256
          obtain ⟨adw, capw, Ax, cx, ew, hX, hcx, hCx⟩ := HRL.out.st.wats i hi f b hf hb h256
          injection ew with e3 _ e4
          subst e3 e4
          have hiz : i = z.toNat := by omega
          rw [hiz] at hX
          have hwr : wrap64 (z + 1) = ((i + 1 : Nat) : Int) := by have := HWSL.out; rw [w64 (by omega) (by omega)]; omega
          have HWR := Aside0.mk hwr
          have HI := Aside0.mk hi
          have hfl : f.toNat < cur.length := by omega
          obtain ⟨yb, hyb⟩ : ∃ yb, cur[f.toNat] = yb := ⟨_, rfl⟩
          have hyl : yb.length = 256 := by rw [← hyb]; exact HW.out.1.1 _ (List.getElem_mem hfl)
          have hyo : cur[f.toNat]? = some yb := by rw [List.getElem?_eq_getElem hfl, hyb]
          obtain ⟨cur2, hcur2⟩ : ∃ cur2, cur2 = cur.set f.toNat (b.take (256 : Int).toNat ++ yb.drop (256 : Int).toNat) := ⟨_, rfl⟩
          have hlo : cur2 = layOne cur (toW ws[i]) (256 : Int).toNat := by
            unfold layOne
            rw [hcur2, show (toW ws[i]).f0 = f from hf, show (toW ws[i]).f1 = b from hb, rdl _ hfl, hyb]
          have HLO := Aside0.mk (show syncB ((ws.map toW).drop i) cur = syncB ((ws.map toW).drop (i + 1)) cur2 by
            rw [drop_step him, syncB, htw, hlo]
            rfl)
          have HWF2 := Aside0.mk (show WFd cur2 (ws.map toW) by rw [hlo]; exact layOne_wf HW.out.1 (by rw [← htw]; exact List.getElem_mem him) (Nat.le_refl 256))
          have HCL2 := Aside0.mk (show cur2.length ≤ 1000 by rw [hlo, layOne_len]; exact HW.out.2.2)
          have HCL := Aside0.mk HW.out.2.2
          have HKR := Aside0.mk (show (0 : Int) ≤ 256 ∧ (256 : Int) ≤ 256 by decide)
          have HLAY := Aside0.mk (fun (W : World) (hbw : Below wr.heap.size wr W) => (by
            have h := lay_calls (HRL.out.st.below hbw) (down := dn) (cut := cut) (left := lf) f (some Ax) cx b yb (Kd.C_below hCx hbw) hcx (256) (by have := HKR.out; omega) (by have := HKR.out; omega) f0 f1 hyo hyl HCL.out
            rw [← hcur2] at h
            exact h : Calls Try.prog 105 #[.agg #[.slice C0 cur.length e0, .slice (some adw) ws.length d1, .slice B2 bad.length d2, .bool dn, .bool cut, .int .i64 lf], .agg #[.int .i64 f, .slice (some Ax) 256 cx], .int .i64 (256)] W (fun e w' => ∃ v0', e = .returned (.agg (stC v0' (.slice (some adw) ws.length d1) (.slice B2 bad.length d2) dn cut lf)) ∧ RSt (fun k => Off P w.heap.size w2.heap.size k ∨ W.heap.size ≤ k) v0' (.slice (some adw) ws.length d1) (.slice B2 bad.length d2) cur2 ws bad w' ∧ Below W.heap.size W w')))
          have HDR := Aside0.mk (show Below wr.heap.size wr wr.drew from below_drew (Below.refl _ _))
          have HG5 := Aside0.mk (fun (W : World) (hb : Below wr.heap.size wr W) => (show (∀ (j : Nat) (v : Value), ([.slice C0 cur.length e0, .slice (some adw) ws.length d1, .slice B2 bad.length d2, .bool dn, .bool cut, .int .i64 lf] : List Value)[j]? = some v → W.cell? ((⟨g3, 0, none⟩ : Addr).add j) = some v) ∧ W.cell? ⟨g3, 1, none⟩ = some (.slice (some adw) ws.length d1) ∧ (∀ (j : Nat) (v : Value), ([.int .i64 f, .slice (some Ax) 256 cx] : List Value)[j]? = some v → W.cell? ((adw.add (z.toNat * 2)).add j) = some v) from ⟨cells_below (cells_of_blk HRL.out.box) hb, cell_below hb ((blk_cell HRL.out.box 1).trans rfl), cells_below hX hb⟩))
          have p1 := eq_true (show (0 : Int) ≤ z by omega)
          have q1 := eq_true (show z < (ws.length : Int) by omega)
          clear hz hk hil hi hb hf him htw f0 f1 h256 hX hcx hCx hiz hwr hfl hyb hyl hyo hcur2 hlo
          go_wp2
          clear hc0 hc1 hc2 hc3 hc4 hc5 hcf0 hcf1 hcf2 hcf3 hcf4 hcf5
          refine start_ (n := 8) (S := fun w' => (∀ (j : Nat) (v : Value), ([.slice C0 cur.length e0, .slice (some adw) ws.length d1, .slice B2 bad.length d2, .bool dn, .bool cut, .int .i64 lf] : List Value)[j]? = some v → w'.cell? ((⟨g3, 0, none⟩ : Addr).add j) = some v) ∧ w'.cell? ⟨g3, 1, none⟩ = some (.slice (some adw) ws.length d1) ∧ (∀ (j : Nat) (v : Value), ([.int .i64 f, .slice (some Ax) 256 cx] : List Value)[j]? = some v → w'.cell? ((adw.add (z.toNat * 2)).add j) = some v)) (ds := [7]) #[false, false, false, false, false, false, false, false] (by kernel_rfl) rfl rfl ⟨(HG5.out wr.drew HDR.out).1, (HG5.out wr.drew HDR.out).2.1, (HG5.out wr.drew HDR.out).2.2⟩ (fun hHeld => ?_); refine with_tabW Dq81_9.tab Dq81_9.bits (fun HT_ HW_ => ?_)
          refine pure_ (i := 1) (N := some 25) (v := ?_) (a' := ?_) #[false, true, false, false, false, false, false, false] rfl rfl (any_of HT_.out (by kernel_rfl)) (fun _ _ _ h => h) (Or.inl ⟨by rfl, ?_⟩) ?_ ?_
          rotate_left
          · intro w'
            go_simp
            with_reducible rfl
          rotate_left
          · simp only [Act.put, List.setIfInBounds_toArray, List.set_cons_zero, List.set_cons_succ, i64_w, i32_w]
            rfl
          refine take_ (i := 2) (N := some 26) (v := ?_) (a' := ?_) #[false, true, true, false, false, false, false, false] rfl rfl (take_ofW HT_.out HW_.out (by kernel_rfl)) (fun _ _ _ h => h) (Or.inl ⟨by rfl, ?_⟩) hHeld ?_ ?_
          rotate_left
          · rintro w' ⟨s0, s1, s2⟩
            go_simp
            with_reducible rfl
          rotate_left
          · simp only [Act.put, List.setIfInBounds_toArray, List.set_cons_zero, List.set_cons_succ, i64_w, i32_w]
            rfl
          refine pure_ (i := 3) (N := some 27) (v := ?_) (a' := ?_) #[false, true, true, true, false, false, false, false] rfl rfl (any_of HT_.out (by kernel_rfl)) (fun _ _ _ h => h) (Or.inl ⟨by rfl, ?_⟩) ?_ ?_
          rotate_left
          · intro w'
            go_simp
            with_reducible rfl
          rotate_left
          · simp only [Act.put, List.setIfInBounds_toArray, List.set_cons_zero, List.set_cons_succ, i64_w, i32_w]
            rfl
          refine pure_ (i := 4) (N := some 28) (v := ?_) (a' := ?_) #[false, true, true, true, true, false, false, false] rfl rfl (any_of HT_.out (by kernel_rfl)) (fun _ _ _ h => h) (Or.inl ⟨by rfl, ?_⟩) ?_ ?_
          rotate_left
          · intro w'
            go_simp
            with_reducible rfl
          rotate_left
          · simp only [Act.put, List.setIfInBounds_toArray, List.set_cons_zero, List.set_cons_succ, i64_w, i32_w]
            rfl
          refine take_ (i := 0) (N := some 24) (v := .agg ([.slice C0 cur.length e0, .slice (some adw) ws.length d1, .slice B2 bad.length d2, .bool dn, .bool cut, .int .i64 lf] : List Value).toArray) #[true, true, true, true, true, false, false, false] rfl rfl (take_ofW HT_.out HW_.out (by kernel_rfl)) (fun _ _ _ h => h) (Or.inl ⟨by rfl, fun w' s0 => run_load_list 102 (.tmp 1) rfl (⟨g3, 0, none⟩) rfl ([.slice C0 cur.length e0, .slice (some adw) ws.length d1, .slice B2 bad.length d2, .bool dn, .bool cut, .int .i64 lf] : List Value) _ s0.1 Try.underlying102 rfl (by kernel_rfl)⟩) hHeld rfl ?_
          refine norm_ (a' := ?_) ?_ ?_
          rotate_left
          · show Act.put _ (some 24) _ = _
            simp only [Act.put, List.setIfInBounds_toArray, List.set_cons_zero, List.set_cons_succ, i64_w, i32_w]
            rfl
          refine take_ (i := 5) (N := some 29) (v := .agg ([.int .i64 f, .slice (some Ax) 256 cx] : List Value).toArray) #[true, true, true, true, true, true, false, false] rfl rfl (take_ofW HT_.out HW_.out (by kernel_rfl)) (fun _ _ _ h => h) (Or.inl ⟨by rfl, fun w' s0 => run_load_list 183 (.tmp 28) rfl (adw.add (z.toNat * 2)) rfl ([.int .i64 f, .slice (some Ax) 256 cx] : List Value) _ s0.2.2 Try.underlying183 rfl (by kernel_rfl)⟩) hHeld rfl ?_
          refine norm_ (a' := ?_) ?_ ?_
          rotate_left
          · show Act.put _ (some 29) _ = _
            simp only [Act.put, List.setIfInBounds_toArray, List.set_cons_zero, List.set_cons_succ, i64_w, i32_w]
            rfl
          refine one_ (i := 6) (N := some 30) #[true, true, true, true, true, true, true, false] rfl rfl (one_of HT_.out (by kernel_rfl)) (by decide) (fun Kq hKq => ?_)
          refine goes_ Try.func105 (by kernel_rfl) rfl #[.agg #[.slice C0 cur.length e0, .slice (some adw) ws.length d1, .slice B2 bad.length d2, .bool dn, .bool cut, .int .i64 lf], .agg #[.int .i64 f, .slice (some Ax) 256 cx], .int .i64 256] (by rfl) rfl rfl (by (try simp only [List.map_toArray, List.map_cons, List.map_nil]); first | done | rfl) ?_
          refine (HLAY.out wr.drew HDR.out).mono ?_
          rintro e w6 ⟨v0', rfl, hs, hb⟩
          obtain ⟨C1, e1, rfl⟩ := Kd.V_slice hs.b
          have HB6 := Aside0.mk (below_step HDR.out hb)
          have HRL6 := Aside0.mk (HRL.out.later HB6.out)
          have HS6 := Aside0.mk (hs.mono (P' := Off P w.heap.size w2.heap.size) (fun k hk => Off.more (Nat.le_trans HRL.out.new HDR.out.size) hk))
          have hc0 : w6.cell? ⟨g3, 0, none⟩ = some (.slice C0 cur.length e0) := (blk_cell HRL6.out.box 0).trans rfl
          have hcf0 : w6.frozen? ⟨g3, 0, none⟩ = false := blk_frozen HRL6.out.box 0
          have hc1 : w6.cell? ⟨g3, 1, none⟩ = some (.slice (some adw) ws.length d1) := (blk_cell HRL6.out.box 1).trans rfl
          have hcf1 : w6.frozen? ⟨g3, 1, none⟩ = false := blk_frozen HRL6.out.box 1
          have hc2 : w6.cell? ⟨g3, 2, none⟩ = some (.slice B2 bad.length d2) := (blk_cell HRL6.out.box 2).trans rfl
          have hcf2 : w6.frozen? ⟨g3, 2, none⟩ = false := blk_frozen HRL6.out.box 2
          have hc3 : w6.cell? ⟨g3, 3, none⟩ = some (.bool dn) := (blk_cell HRL6.out.box 3).trans rfl
          have hcf3 : w6.frozen? ⟨g3, 3, none⟩ = false := blk_frozen HRL6.out.box 3
          have hc4 : w6.cell? ⟨g3, 4, none⟩ = some (.bool cut) := (blk_cell HRL6.out.box 4).trans rfl
          have hcf4 : w6.frozen? ⟨g3, 4, none⟩ = false := blk_frozen HRL6.out.box 4
          have hc5 : w6.cell? ⟨g3, 5, none⟩ = some (.int .i64 lf) := (blk_cell HRL6.out.box 5).trans rfl
          have hcf5 : w6.frozen? ⟨g3, 5, none⟩ = false := blk_frozen HRL6.out.box 5
          clear hs hb
          refine ⟨.agg #[.slice C1 cur2.length e1, .slice (some adw) ws.length d1, .slice B2 bad.length d2, .bool dn, .bool cut, .int .i64 lf], rfl, ?_⟩
          refine hKq.out _ _ (HG5.out w6 HB6.out) (fun hHeld => ?_)
          clear hKq Kq
          refine norm_ (a' := ?_) ?_ ?_
          rotate_left
          · show Act.put _ (some 30) _ = _
            simp only [Act.put, List.setIfInBounds_toArray, List.set_cons_zero, List.set_cons_succ, i64_w, i32_w]
            rfl
          refine last_ (i := 7) (N := none) #[true, true, true, true, true, true, true, true] rfl rfl (one_of HT_.out (by kernel_rfl)) (by decide) (fun Kq hKq => ?_)
          refine skip_ (w1 := ?_) (by rfl) rfl ?_ ?_
          rotate_left
          · go_simp
            rfl
          refine hKq.out _ _ ?_
          clear hKq Kq
          refine done_ (done_of HT_.out (by kernel_rfl)) ?_
          go_wp2
          go_roundg k1
          case measure => have := HK.out.2.1; omega
          case rel => exact ⟨wrap64 (z + 1), i + 1, cur2, _, _, rfl, ⟨HWR.out, by have := HK.out.2.1; omega, by have := HI.out; omega⟩, ⟨HWF2.out, by rw [← HLO.out]; exact HW.out.2.1, HCL2.out⟩, ⟨HRL6.out.set HS6.out ⟨HGS.out.1, Nat.lt_trans HGS.out.2.2.1 HGS.out.2.2.2, fun e => HNE.out e.symm⟩⟩⟩
        · have hib : decide (z < (ws.length : Int)) = false := decide_eq_false (by omega)
          have hie : i = ws.length := by omega
          have hfin := HW.out.2.1
          rw [hie, List.drop_of_length_le (by rw [List.length_map]; exact Nat.le_refl _)] at hfin
          have HFIN := Aside0.mk (show cur = syncB (ws.map toW) bl from hfin)
          have hz0 : wr.cell? ⟨g6, 0, none⟩ = some (.slice none 0 0) := (blk_cell HRL.out.res 0).trans rfl
          have hzf0 : wr.frozen? ⟨g6, 0, none⟩ = false := blk_frozen HRL.out.res 0
          have hz1 : wr.cell? ⟨g6, 1, none⟩ = some (.slice none 0 0) := (blk_cell HRL.out.res 1).trans rfl
          have hzf1 : wr.frozen? ⟨g6, 1, none⟩ = false := blk_frozen HRL.out.res 1
          have hz2 : wr.cell? ⟨g6, 2, none⟩ = some (.slice none 0 0) := (blk_cell HRL.out.res 2).trans rfl
          have hzf2 : wr.frozen? ⟨g6, 2, none⟩ = false := blk_frozen HRL.out.res 2
          have hz3 : wr.cell? ⟨g6, 3, none⟩ = some (.bool false) := (blk_cell HRL.out.res 3).trans rfl
          have hzf3 : wr.frozen? ⟨g6, 3, none⟩ = false := blk_frozen HRL.out.res 3
          have hz4 : wr.cell? ⟨g6, 4, none⟩ = some (.bool false) := (blk_cell HRL.out.res 4).trans rfl
          have hzf4 : wr.frozen? ⟨g6, 4, none⟩ = false := blk_frozen HRL.out.res 4
          have hz5 : wr.cell? ⟨g6, 5, none⟩ = some (.int .i64 0) := (blk_cell HRL.out.res 5).trans rfl
          have hzf5 : wr.frozen? ⟨g6, 5, none⟩ = false := blk_frozen HRL.out.res 5
          clear hz hk hil hi hie hfin
          go_wp2
          refine bodyPost_ret (results_ct rfl _ _ g6 102 (stC (.slice C0 cur.length e0) (.slice none 0 0) (.slice B2 bad.length d2) dn cut lf) (0, 0) _ rfl (set6_blk (blk_far HRL.out.res (p := ⟨g3, 1, none⟩) HNE.out _) rfl _ _ _ _ _ _) Try.underlying102 rfl (by kernel_rfl)) rfl ?_
          have hgs := HGS.out
          have HSF := Aside0.mk (show RSt (Off P w.heap.size w2.heap.size) (.slice C0 cur.length e0) (.slice none 0 0) (.slice B2 bad.length d2) (syncB (ws.map toW) bl) [] bad wr from ⟨by rw [← HFIN.out]; exact HRL.out.st.b, Kd.V_nil _ _ _ _ _, HRL.out.st.d⟩)
          refine ⟨_, rfl, _, _, _, rfl, (HSF.out).fin (by omega) (fun k hk => (set6_far (hk.ne hgs.2.1 hgs.2.2.2) _ _ _ _ _ _).trans (Below.heap_setCell _ ⟨g3, 1, none⟩ _ _ (hk.ne hgs.1 (Nat.lt_trans hgs.2.2.1 hgs.2.2.2)))), set6_below (HRL.out.below.setCell (p := ⟨g3, 1, none⟩) hgs.1 _) hgs.2.1 _ _ _ _ _ _⟩

end Go.Proofs.Ytdbfclfglpbpmaa.Dsk
