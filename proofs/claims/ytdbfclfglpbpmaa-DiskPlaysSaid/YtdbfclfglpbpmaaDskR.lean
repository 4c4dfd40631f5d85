/- The document's Crash. No condition. -/
import Derived.Test.YtdbfclfglpbpmaaDskQ
namespace Go.Proofs.Ytdbfclfglpbpmaa.Dsk
open Go.AnyFacts Go.Proofs.Ytdbfclfglpbpmaa.Sha Go.RowKit Go.Proofs.YtdbfclfglpbpmaaW.Hand Go.Proofs.YtdbfclfglpbpmaaW.PrintWords Go.Proofs.YtdbfclfglpbpmaaW.PrintLast Go.Proofs.YtdbfclfglpbpmaaW.PrintMore Go.Proofs.Ytdbfclfglpbpmaa.PF21 Go.Proofs.Ytdbfclfglpbpmaa.Base Go.Proofs.Ytdbfclfglpbpmaa.LF21
attribute [local go_sem] max2_int min2_int max_two min_two max_three min_three max_four min_four
set_option linter.unusedVariables false
set_option linter.unusedSimpArgs false
def Dr83_4.T : Bool × List (List Nat × List Nat) := (true, [([], []), ([], []), ([1], [1]), ([], []), ([2, 3], [2, 3]), ([4], [4]), ([], []), ([], []), ([6, 7], [6, 7]), ([8], [8]), ([9], [9]), ([10], [10]), ([0, 5, 11], [0, 5, 11]), ([12, 12, 0, 1, 2, 3, 4, 5, 6, 7, 8, 9, 10, 11, 12], [12])])
def Dr83_4.B : List Nat := [0, 0, 2, 0, 14, 30, 0, 0, 192, 448, 960, 1984, 4095, 8191]
theorem Dr83_4.tab : rtab .any (opsOf Try.f83 4) = Dr83_4.T := by kernel_rfl
theorem Dr83_4.bits : waitsOk Dr83_4.T.2 Dr83_4.B = true := by kernel_rfl
set_option maxHeartbeats 8000000 in
set_option maxRecDepth 100000 in
theorem RSt.Crash {P : Nat → Prop} {v0 v1 v2 : Value} {bl : List (List Int)} {ws : List S183} {bad : List Int} {down cut : Bool} {left : Int} {w : World} (s : RSt P v0 v1 v2 bl ws bad w) (Ap : Option Addr) (cp : Nat) (ps : List Int) (hP : Kd.C (Kd.int .i64) w Ap ps.length ps) (hwf : WFd bl (ws.map toW)) (hwl : ws.length ≤ 1000) (hblm : bl.length ≤ 1000) : Calls Try.prog 83 #[.agg (stC v0 v1 v2 down cut left), .slice Ap ps.length cp] w fun e w' => ∃ v, e = .returned v ∧ RPost P w (crashB (ws.map toW) ps bl) [] bad false false 0 v w' := by
  obtain ⟨A0, c0, rfl⟩ := Kd.V_slice s.b
  obtain ⟨A1, c1, rfl⟩ := Kd.V_slice s.q
  obtain ⟨A2, c2, rfl⟩ := Kd.V_slice s.d
  have HS := Aside0.mk s
  clear s
  have HWSL := Aside0.mk hwl
  have HWF := Aside0.mk hwf
  have HBLM := Aside0.mk hblm
  have HP := Aside0.mk hP
  clear hwl hwf hblm hP
  go_enter Try.func83, Try.ntmps83
  go_wp2_with (first
    | ((with_reducible refine gate_dst (N := 2) rfl ?_); refine L_box rfl 102 (.tmp 0) rfl (.agg #[.slice A0 bl.length c0, .slice A1 ws.length c1, .slice A2 bad.length c2, .bool down, .bool cut, .int .i64 left]) rfl ?_; intro g3 w1 hb hg hs hl; have HKg3 := Aside0.mk hb; have HGg3 := Aside0.mk hg; have HLg3 := Aside0.mk hl; clear hb hg hs hl)
    | ((with_reducible refine gate_dst (N := 4) rfl ?_); refine L_alloc rfl 102 rfl (.agg #[.slice none 0 0, .slice none 0 0, .slice none 0 0, .bool false, .bool false, .int .i64 0]) 6 (by kernel_rfl) ?_; intro g6 w2 hb hg hs hl; have HKg6 := Aside0.mk hb; have HGg6 := Aside0.mk hg; have HLg6 := Aside0.mk hl; clear hb hg hs hl; have HB2 := Aside0.mk (below_step HLg3.out HLg6.out); have HK32 := Aside0.mk (blk_below HKg3.out HLg6.out); have HGS := Aside0.mk (show w.heap.size ≤ g3 ∧ w.heap.size ≤ g6 ∧ g3 < g6 ∧ g6 < w2.heap.size from by have h1 := HGg3.out; have h3 := HGg6.out; have h4 := blk_lt HKg3.out; have h6 := blk_lt HKg6.out; omega); have hne1 : g3 ≠ g6 := (by have := HGS.out; omega); have hne2 : g6 ≠ g3 := (fun e => hne1 e.symm); have HNE := Aside0.mk hne2; have HSO := Aside0.mk ((HS.out.off w2.heap.size).below HB2.out); have hc0 : w2.cell? ⟨g3, 0, none⟩ = some (.slice A0 bl.length c0) := (blk_cell HK32.out 0).trans rfl; have hcf0 : w2.frozen? ⟨g3, 0, none⟩ = false := blk_frozen HK32.out 0; have hc1 : w2.cell? ⟨g3, 1, none⟩ = some (.slice A1 ws.length c1) := (blk_cell HK32.out 1).trans rfl; have hcf1 : w2.frozen? ⟨g3, 1, none⟩ = false := blk_frozen HK32.out 1; have hc2 : w2.cell? ⟨g3, 2, none⟩ = some (.slice A2 bad.length c2) := (blk_cell HK32.out 2).trans rfl; have hcf2 : w2.frozen? ⟨g3, 2, none⟩ = false := blk_frozen HK32.out 2; have hc3 : w2.cell? ⟨g3, 3, none⟩ = some (.bool down) := (blk_cell HK32.out 3).trans rfl; have hcf3 : w2.frozen? ⟨g3, 3, none⟩ = false := blk_frozen HK32.out 3; have hc4 : w2.cell? ⟨g3, 4, none⟩ = some (.bool cut) := (blk_cell HK32.out 4).trans rfl; have hcf4 : w2.frozen? ⟨g3, 4, none⟩ = false := blk_frozen HK32.out 4; have hc5 : w2.cell? ⟨g3, 5, none⟩ = some (.int .i64 left) := (blk_cell HK32.out 5).trans rfl; have hcf5 : w2.frozen? ⟨g3, 5, none⟩ = false := blk_frozen HK32.out 5; have hz0 : w2.cell? ⟨g6, 0, none⟩ = some (.slice none 0 0) := (blk_cell HKg6.out 0).trans rfl; have hzf0 : w2.frozen? ⟨g6, 0, none⟩ = false := blk_frozen HKg6.out 0; have hz1 : w2.cell? ⟨g6, 1, none⟩ = some (.slice none 0 0) := (blk_cell HKg6.out 1).trans rfl; have hzf1 : w2.frozen? ⟨g6, 1, none⟩ = false := blk_frozen HKg6.out 1; have hz2 : w2.cell? ⟨g6, 2, none⟩ = some (.slice none 0 0) := (blk_cell HKg6.out 2).trans rfl; have hzf2 : w2.frozen? ⟨g6, 2, none⟩ = false := blk_frozen HKg6.out 2; have hz3 : w2.cell? ⟨g6, 3, none⟩ = some (.bool false) := (blk_cell HKg6.out 3).trans rfl; have hzf3 : w2.frozen? ⟨g6, 3, none⟩ = false := blk_frozen HKg6.out 3; have hz4 : w2.cell? ⟨g6, 4, none⟩ = some (.bool false) := (blk_cell HKg6.out 4).trans rfl; have hzf4 : w2.frozen? ⟨g6, 4, none⟩ = false := blk_frozen HKg6.out 4; have hz5 : w2.cell? ⟨g6, 5, none⟩ = some (.int .i64 0) := (blk_cell HKg6.out 5).trans rfl; have hzf5 : w2.frozen? ⟨g6, 5, none⟩ = false := blk_frozen HKg6.out 5))
  clear hc0 hcf0 hz0 hzf0 hc1 hcf1 hz1 hzf1 hc2 hcf2 hz2 hzf2 hc3 hcf3 hz3 hzf3 hc4 hcf4 hz4 hzf4 hc5 hcf5 hz5 hzf5
  have HRL0 := Aside0.mk (show RLp P w w2 g3 g6 (.slice A0 bl.length c0) (.slice A1 ws.length c1) (.slice A2 bad.length c2) down cut left bl ws bad w2 from ⟨HSO.out, HK32.out, HKg6.out, HB2.out, Nat.le_refl _⟩)
  go_loopg [5] (ws.length + 1) (fun kq v5 wr => ∃ (z : Int) (i : Nat) (cur : List (List Int)) (C0 : Option Addr) (e0 : Nat), v5 = .int .i64 z ∧ Aside0 (z = (i : Int) ∧ i + kq = ws.length + 1 ∧ i ≤ ws.length) ∧ Aside0 (WFd cur (ws.map toW) ∧ crashB ((ws.map toW).drop i) (ps.drop i) cur = crashB (ws.map toW) ps bl ∧ cur.length ≤ 1000) ∧ Aside0 (RLp P w w2 g3 g6 (.slice C0 cur.length e0) (.slice A1 ws.length c1) (.slice A2 bad.length c2) down cut left cur ws bad wr))
  case atStart => exact ⟨0, 0, bl, _, _, rfl, ⟨rfl, by omega, by omega⟩, ⟨HWF.out, by rw [List.drop_zero, List.drop_zero], HBLM.out⟩, HRL0⟩
  case round =>
    obtain ⟨z, i, cur, C0, e0, rfl, HK, HW, HRL⟩ := hrel
    obtain ⟨hz, hk, hil⟩ := HK.out
    clear HRL0
    cases gk with
    | zero => omega
    | succ k1 =>
      have hc0 : wr.cell? ⟨g3, 0, none⟩ = some (.slice C0 cur.length e0) := (blk_cell HRL.out.box 0).trans rfl
      have hcf0 : wr.frozen? ⟨g3, 0, none⟩ = false := blk_frozen HRL.out.box 0
      have hc1 : wr.cell? ⟨g3, 1, none⟩ = some (.slice A1 ws.length c1) := (blk_cell HRL.out.box 1).trans rfl
      have hcf1 : wr.frozen? ⟨g3, 1, none⟩ = false := blk_frozen HRL.out.box 1
      have hc2 : wr.cell? ⟨g3, 2, none⟩ = some (.slice A2 bad.length c2) := (blk_cell HRL.out.box 2).trans rfl
      have hcf2 : wr.frozen? ⟨g3, 2, none⟩ = false := blk_frozen HRL.out.box 2
      have hc3 : wr.cell? ⟨g3, 3, none⟩ = some (.bool down) := (blk_cell HRL.out.box 3).trans rfl
      have hcf3 : wr.frozen? ⟨g3, 3, none⟩ = false := blk_frozen HRL.out.box 3
      have hc4 : wr.cell? ⟨g3, 4, none⟩ = some (.bool cut) := (blk_cell HRL.out.box 4).trans rfl
      have hcf4 : wr.frozen? ⟨g3, 4, none⟩ = false := blk_frozen HRL.out.box 4
      have hc5 : wr.cell? ⟨g3, 5, none⟩ = some (.int .i64 left) := (blk_cell HRL.out.box 5).trans rfl
      have hcf5 : wr.frozen? ⟨g3, 5, none⟩ = false := blk_frozen HRL.out.box 5
      by_cases hi : i < ws.length
      · have hib : decide (z < (ws.length : Int)) = true := decide_eq_true (by omega)
        by_cases hip : i < ps.length
        · have hpb : decide (z < (ps.length : Int)) = true := decide_eq_true (by omega)
          obtain ⟨p, hp⟩ : ∃ p, ps[i] = p := ⟨_, rfl⟩
          obtain ⟨r, hr⟩ : ∃ r, r = pick p := ⟨_, rfl⟩
          have hr0 := pick_range p
          rw [← hr] at hr0
          have hmx : (if p < 0 then (0 : Int) else p) = mx p 0 := rfl
          have hmn : (if 256 < mx p 0 then (256 : Int) else mx p 0) = r := by rw [hr]; rfl
          obtain ⟨adp, eap, hpc⟩ := Kd.at_int (Kd.C_below HP.out HRL.out.below) z (by omega) (by omega)
          have hrd : rd ps z = p := by rw [show z = (i : Int) by omega, rd_lt hip, hp]
          rw [hrd] at hpc
          subst eap
          have q3 := eq_true (show z < (ps.length : Int) by omega)
          obtain ⟨b, hb⟩ : ∃ b, ws[i].f1 = b := ⟨_, rfl⟩
          obtain ⟨f, hf⟩ : ∃ f, ws[i].f0 = f := ⟨_, rfl⟩
          have him : i < (ws.map toW).length := by rw [List.length_map]; exact hi
          have htw : (ws.map toW)[i] = toW ws[i] := List.getElem_map _
          obtain ⟨f0, f1, h256⟩ := HW.out.1.2 (toW ws[i]) (by rw [← htw]; exact List.getElem_mem him)
          rw [show (toW ws[i]).f0 = f from hf] at f0 f1
          rw [show (toW ws[i]).f1 = b from hb] at h256
          obtain ⟨adw, capw, Ax, cx, ew, hX, hcx, hCx⟩ := HRL.out.st.wats i hi f b hf hb h256
          injection ew with e3 _ e4
          subst e3 e4
          have hiz : i = z.toNat := by omega
          rw [hiz] at hX
          have hwr : wrap64 (z + 1) = ((i + 1 : Nat) : Int) := by have := HWSL.out; rw [w64 (by omega) (by omega)]; omega
          have HWR := Aside0.mk hwr
          have HI := Aside0.mk hi
          have hfl : f.toNat < cur.length := by omega
          obtain ⟨yb, hyb⟩ : ∃ yb, cur[f.toNat] = yb := ⟨_, rfl⟩
          have hyl : yb.length = 256 := by rw [← hyb]; exact HW.out.1.1 _ (List.getElem_mem hfl)
          have hyo : cur[f.toNat]? = some yb := by rw [List.getElem?_eq_getElem hfl, hyb]
          obtain ⟨cur2, hcur2⟩ : ∃ cur2, cur2 = cur.set f.toNat (b.take (r : Int).toNat ++ yb.drop (r : Int).toNat) := ⟨_, rfl⟩
          have hlo : cur2 = layOne cur (toW ws[i]) (r : Int).toNat := by
            unfold layOne
            rw [hcur2, show (toW ws[i]).f0 = f from hf, show (toW ws[i]).f1 = b from hb, rdl _ hfl, hyb]
          have HLO := Aside0.mk (show crashB ((ws.map toW).drop i) (ps.drop i) cur = crashB ((ws.map toW).drop (i + 1)) (ps.drop (i + 1)) cur2 by
            rw [drop_step him, drop_step hip, crashB, htw, hp, hlo, hr])
          have HWF2 := Aside0.mk (show WFd cur2 (ws.map toW) by rw [hlo]; exact layOne_wf HW.out.1 (by rw [← htw]; exact List.getElem_mem him) (by omega))
          have HCL2 := Aside0.mk (show cur2.length ≤ 1000 by rw [hlo, layOne_len]; exact HW.out.2.2)
          have HCL := Aside0.mk HW.out.2.2
          have HKR := Aside0.mk hr0
          have HLAY := Aside0.mk (fun (W : World) (hbw : Below wr.heap.size wr W) => (by
            have h := lay_calls (HRL.out.st.below hbw) (down := down) (cut := cut) (left := left) f (some Ax) cx b yb (Kd.C_below hCx hbw) hcx (r) (by have := HKR.out; omega) (by have := HKR.out; omega) f0 f1 hyo hyl HCL.out
            rw [← hcur2] at h
            exact h : Calls Try.prog 105 #[.agg #[.slice C0 cur.length e0, .slice (some adw) ws.length c1, .slice A2 bad.length c2, .bool down, .bool cut, .int .i64 left], .agg #[.int .i64 f, .slice (some Ax) 256 cx], .int .i64 (r)] W (fun e w' => ∃ v0', e = .returned (.agg (stC v0' (.slice (some adw) ws.length c1) (.slice A2 bad.length c2) down cut left)) ∧ RSt (fun k => Off P w.heap.size w2.heap.size k ∨ W.heap.size ≤ k) v0' (.slice (some adw) ws.length c1) (.slice A2 bad.length c2) cur2 ws bad w' ∧ Below W.heap.size W w')))
          have HDR := Aside0.mk (show Below wr.heap.size wr wr.drew from below_drew (Below.refl _ _))
          have HG5 := Aside0.mk (fun (W : World) (hb : Below wr.heap.size wr W) => (show (∀ (j : Nat) (v : Value), ([.slice C0 cur.length e0, .slice (some adw) ws.length c1, .slice A2 bad.length c2, .bool down, .bool cut, .int .i64 left] : List Value)[j]? = some v → W.cell? ((⟨g3, 0, none⟩ : Addr).add j) = some v) ∧ W.cell? ⟨g3, 1, none⟩ = some (.slice (some adw) ws.length c1) ∧ (∀ (j : Nat) (v : Value), ([.int .i64 f, .slice (some Ax) 256 cx] : List Value)[j]? = some v → W.cell? ((adw.add (z.toNat * 2)).add j) = some v) ∧ W.cell? (adp.add z.toNat) = some (.int .i64 p) from ⟨cells_below (cells_of_blk HRL.out.box) hb, cell_below hb ((blk_cell HRL.out.box 1).trans rfl), cells_below hX hb, cell_below hb hpc⟩))
          have p1 := eq_true (show (0 : Int) ≤ z by omega)
          have q1 := eq_true (show z < (ws.length : Int) by omega)
          clear hz hk hil hi hb hf him htw f0 f1 h256 hX hcx hCx hiz hwr hfl hyb hyl hyo hcur2 hlo hip hp hr hr0 hpc hrd
          go_wp2
          clear hc0 hc1 hc2 hc3 hc4 hc5 hcf0 hcf1 hcf2 hcf3 hcf4 hcf5
          refine start_ (n := 14) (S := fun w' => (∀ (j : Nat) (v : Value), ([.slice C0 cur.length e0, .slice (some adw) ws.length c1, .slice A2 bad.length c2, .bool down, .bool cut, .int .i64 left] : List Value)[j]? = some v → w'.cell? ((⟨g3, 0, none⟩ : Addr).add j) = some v) ∧ w'.cell? ⟨g3, 1, none⟩ = some (.slice (some adw) ws.length c1) ∧ (∀ (j : Nat) (v : Value), ([.int .i64 f, .slice (some Ax) 256 cx] : List Value)[j]? = some v → w'.cell? ((adw.add (z.toNat * 2)).add j) = some v) ∧ w'.cell? (adp.add z.toNat) = some (.int .i64 p)) (ds := [13]) #[false, false, false, false, false, false, false, false, false, false, false, false, false, false] (by kernel_rfl) rfl rfl ⟨(HG5.out wr.drew HDR.out).1, (HG5.out wr.drew HDR.out).2.1, (HG5.out wr.drew HDR.out).2.2.1, (HG5.out wr.drew HDR.out).2.2.2⟩ (fun hHeld => ?_); refine with_tabW Dr83_4.tab Dr83_4.bits (fun HT_ HW_ => ?_)
          refine pure_ (i := 1) (N := some 20) (v := ?_) (a' := ?_) #[false, true, false, false, false, false, false, false, false, false, false, false, false, false] rfl rfl (any_of HT_.out (by kernel_rfl)) (fun _ _ _ h => h) (Or.inl ⟨by rfl, ?_⟩) ?_ ?_
          rotate_left
          · intro w'
            go_simp
            with_reducible rfl
          rotate_left
          · simp only [Act.put, List.setIfInBounds_toArray, List.set_cons_zero, List.set_cons_succ, i64_w, i32_w]
            rfl
          refine take_ (i := 2) (N := some 21) (v := ?_) (a' := ?_) #[false, true, true, false, false, false, false, false, false, false, false, false, false, false] rfl rfl (take_ofW HT_.out HW_.out (by kernel_rfl)) (fun _ _ _ h => h) (Or.inl ⟨by rfl, ?_⟩) hHeld ?_ ?_
          rotate_left
          · rintro w' ⟨s0, s1, s2, s3⟩
            go_simp
            with_reducible rfl
          rotate_left
          · simp only [Act.put, List.setIfInBounds_toArray, List.set_cons_zero, List.set_cons_succ, i64_w, i32_w]
            rfl
          refine pure_ (i := 3) (N := some 22) (v := ?_) (a' := ?_) #[false, true, true, true, false, false, false, false, false, false, false, false, false, false] rfl rfl (any_of HT_.out (by kernel_rfl)) (fun _ _ _ h => h) (Or.inl ⟨by rfl, ?_⟩) ?_ ?_
          rotate_left
          · intro w'
            go_simp
            with_reducible rfl
          rotate_left
          · simp only [Act.put, List.setIfInBounds_toArray, List.set_cons_zero, List.set_cons_succ, i64_w, i32_w]
            rfl
          refine pure_ (i := 4) (N := some 23) (v := ?_) (a' := ?_) #[false, true, true, true, true, false, false, false, false, false, false, false, false, false] rfl rfl (any_of HT_.out (by kernel_rfl)) (fun _ _ _ h => h) (Or.inl ⟨by rfl, ?_⟩) ?_ ?_
          rotate_left
          · intro w'
            go_simp
            with_reducible rfl
          rotate_left
          · simp only [Act.put, List.setIfInBounds_toArray, List.set_cons_zero, List.set_cons_succ, i64_w, i32_w]
            rfl
          refine pure_ (i := 6) (N := some 25) (v := ?_) (a' := ?_) #[false, true, true, true, true, false, true, false, false, false, false, false, false, false] rfl rfl (any_of HT_.out (by kernel_rfl)) (fun _ _ _ h => h) (Or.inl ⟨by rfl, ?_⟩) ?_ ?_
          rotate_left
          · intro w'
            go_simp
            with_reducible rfl
          rotate_left
          · simp only [Act.put, List.setIfInBounds_toArray, List.set_cons_zero, List.set_cons_succ, i64_w, i32_w]
            rfl
          refine pure_ (i := 7) (N := some 26) (v := ?_) (a' := ?_) #[false, true, true, true, true, false, true, true, false, false, false, false, false, false] rfl rfl (any_of HT_.out (by kernel_rfl)) (fun _ _ _ h => h) (Or.inl ⟨by rfl, ?_⟩) ?_ ?_
          rotate_left
          · intro w'
            go_simp
            with_reducible rfl
          rotate_left
          · simp only [Act.put, List.setIfInBounds_toArray, List.set_cons_zero, List.set_cons_succ, i64_w, i32_w]
            rfl
          refine pure_ (i := 8) (N := some 27) (v := ?_) (a' := ?_) #[false, true, true, true, true, false, true, true, true, false, false, false, false, false] rfl rfl (any_of HT_.out (by kernel_rfl)) (fun _ _ _ h => h) (Or.inl ⟨by rfl, ?_⟩) ?_ ?_
          rotate_left
          · intro w'
            go_simp
            with_reducible rfl
          rotate_left
          · simp only [Act.put, List.setIfInBounds_toArray, List.set_cons_zero, List.set_cons_succ, i64_w, i32_w]
            rfl
          refine take_ (i := 9) (N := some 28) (v := ?_) (a' := ?_) #[false, true, true, true, true, false, true, true, true, true, false, false, false, false] rfl rfl (take_ofW HT_.out HW_.out (by kernel_rfl)) (fun _ _ _ h => h) (Or.inl ⟨by rfl, ?_⟩) hHeld ?_ ?_
          rotate_left
          · rintro w' ⟨s0, s1, s2, s3⟩
            go_simp
            with_reducible rfl
          rotate_left
          · simp only [Act.put, List.setIfInBounds_toArray, List.set_cons_zero, List.set_cons_succ, i64_w, i32_w]
            rfl
          refine pure_ (i := 10) (N := some 29) (v := ?_) (a' := ?_) #[false, true, true, true, true, false, true, true, true, true, true, false, false, false] rfl rfl (any_of HT_.out (by kernel_rfl)) (fun _ _ _ h => h) (Or.inl ⟨by rfl, ?_⟩) ?_ ?_
          rotate_left
          · intro w'
            go_simp
            with_reducible rfl
          rotate_left
          · simp only [Act.put, List.setIfInBounds_toArray, List.set_cons_zero, List.set_cons_succ, i64_w, i32_w]
            rfl
          refine pure_ (i := 11) (N := some 30) (v := ?_) (a' := ?_) #[false, true, true, true, true, false, true, true, true, true, true, true, false, false] rfl rfl (any_of HT_.out (by kernel_rfl)) (fun _ _ _ h => h) (Or.inl ⟨by rfl, ?_⟩) ?_ ?_
          rotate_left
          · intro w'
            go_simp
            with_reducible rfl
          rotate_left
          · simp only [Act.put, List.setIfInBounds_toArray, List.set_cons_zero, List.set_cons_succ, i64_w, i32_w]
            rfl
          refine take_ (i := 0) (N := some 19) (v := .agg ([.slice C0 cur.length e0, .slice (some adw) ws.length c1, .slice A2 bad.length c2, .bool down, .bool cut, .int .i64 left] : List Value).toArray) #[true, true, true, true, true, false, true, true, true, true, true, true, false, false] rfl rfl (take_ofW HT_.out HW_.out (by kernel_rfl)) (fun _ _ _ h => h) (Or.inl ⟨by rfl, fun w' s0 => run_load_list 102 (.tmp 2) rfl (⟨g3, 0, none⟩) rfl ([.slice C0 cur.length e0, .slice (some adw) ws.length c1, .slice A2 bad.length c2, .bool down, .bool cut, .int .i64 left] : List Value) _ s0.1 Try.underlying102 rfl (by kernel_rfl)⟩) hHeld rfl ?_
          refine norm_ (a' := ?_) ?_ ?_
          rotate_left
          · show Act.put _ (some 19) _ = _
            simp only [Act.put, List.setIfInBounds_toArray, List.set_cons_zero, List.set_cons_succ, i64_w, i32_w]
            rfl
          refine take_ (i := 5) (N := some 24) (v := .agg ([.int .i64 f, .slice (some Ax) 256 cx] : List Value).toArray) #[true, true, true, true, true, true, true, true, true, true, true, true, false, false] rfl rfl (take_ofW HT_.out HW_.out (by kernel_rfl)) (fun _ _ _ h => h) (Or.inl ⟨by rfl, fun w' s0 => run_load_list 183 (.tmp 23) rfl (adw.add (z.toNat * 2)) rfl ([.int .i64 f, .slice (some Ax) 256 cx] : List Value) _ s0.2.2.1 Try.underlying183 rfl (by kernel_rfl)⟩) hHeld rfl ?_
          refine norm_ (a' := ?_) ?_ ?_
          rotate_left
          · show Act.put _ (some 24) _ = _
            simp only [Act.put, List.setIfInBounds_toArray, List.set_cons_zero, List.set_cons_succ, i64_w, i32_w]
            rfl
          refine one_ (i := 12) (N := some 31) #[true, true, true, true, true, true, true, true, true, true, true, true, true, false] rfl rfl (one_of HT_.out (by kernel_rfl)) (by decide) (fun Kq hKq => ?_)
          refine goes_ Try.func105 (by kernel_rfl) rfl #[.agg #[.slice C0 cur.length e0, .slice (some adw) ws.length c1, .slice A2 bad.length c2, .bool down, .bool cut, .int .i64 left], .agg #[.int .i64 f, .slice (some Ax) 256 cx], .int .i64 r] (by rfl) rfl rfl (by (try simp only [List.map_toArray, List.map_cons, List.map_nil]); first | done | rfl) ?_
          refine (HLAY.out wr.drew HDR.out).mono ?_
          rintro e w6 ⟨v0', rfl, hs, hb⟩
          obtain ⟨C1, e1, rfl⟩ := Kd.V_slice hs.b
          have HB6 := Aside0.mk (below_step HDR.out hb)
          have HRL6 := Aside0.mk (HRL.out.later HB6.out)
          have HS6 := Aside0.mk (hs.mono (P' := Off P w.heap.size w2.heap.size) (fun k hk => Off.more (Nat.le_trans HRL.out.new HDR.out.size) hk))
          have hc0 : w6.cell? ⟨g3, 0, none⟩ = some (.slice C0 cur.length e0) := (blk_cell HRL6.out.box 0).trans rfl
          have hcf0 : w6.frozen? ⟨g3, 0, none⟩ = false := blk_frozen HRL6.out.box 0
          have hc1 : w6.cell? ⟨g3, 1, none⟩ = some (.slice (some adw) ws.length c1) := (blk_cell HRL6.out.box 1).trans rfl
          have hcf1 : w6.frozen? ⟨g3, 1, none⟩ = false := blk_frozen HRL6.out.box 1
          have hc2 : w6.cell? ⟨g3, 2, none⟩ = some (.slice A2 bad.length c2) := (blk_cell HRL6.out.box 2).trans rfl
          have hcf2 : w6.frozen? ⟨g3, 2, none⟩ = false := blk_frozen HRL6.out.box 2
          have hc3 : w6.cell? ⟨g3, 3, none⟩ = some (.bool down) := (blk_cell HRL6.out.box 3).trans rfl
          have hcf3 : w6.frozen? ⟨g3, 3, none⟩ = false := blk_frozen HRL6.out.box 3
          have hc4 : w6.cell? ⟨g3, 4, none⟩ = some (.bool cut) := (blk_cell HRL6.out.box 4).trans rfl
          have hcf4 : w6.frozen? ⟨g3, 4, none⟩ = false := blk_frozen HRL6.out.box 4
          have hc5 : w6.cell? ⟨g3, 5, none⟩ = some (.int .i64 left) := (blk_cell HRL6.out.box 5).trans rfl
          have hcf5 : w6.frozen? ⟨g3, 5, none⟩ = false := blk_frozen HRL6.out.box 5
          clear hs hb
          refine ⟨.agg #[.slice C1 cur2.length e1, .slice (some adw) ws.length c1, .slice A2 bad.length c2, .bool down, .bool cut, .int .i64 left], rfl, ?_⟩
          refine hKq.out _ _ (HG5.out w6 HB6.out) (fun hHeld => ?_)
          clear hKq Kq
          refine norm_ (a' := ?_) ?_ ?_
          rotate_left
          · show Act.put _ (some 31) _ = _
            simp only [Act.put, List.setIfInBounds_toArray, List.set_cons_zero, List.set_cons_succ, i64_w, i32_w]
            rfl
          refine last_ (i := 13) (N := none) #[true, true, true, true, true, true, true, true, true, true, true, true, true, true] rfl rfl (one_of HT_.out (by kernel_rfl)) (by decide) (fun Kq hKq => ?_)
          refine skip_ (w1 := ?_) (by rfl) rfl ?_ ?_
          rotate_left
          · go_simp
            rfl
          refine hKq.out _ _ ?_
          clear hKq Kq
          refine done_ (done_of HT_.out (by kernel_rfl)) ?_
          go_wp2
          go_roundg k1
          case measure => have := HK.out.2.1; omega
          case rel => exact ⟨wrap64 (z + 1), i + 1, cur2, _, _, rfl, ⟨HWR.out, by have := HK.out.2.1; omega, by have := HI.out; omega⟩, ⟨HWF2.out, by rw [← HLO.out]; exact HW.out.2.1, HCL2.out⟩, ⟨HRL6.out.set HS6.out ⟨HGS.out.1, Nat.lt_trans HGS.out.2.2.1 HGS.out.2.2.2, fun e => HNE.out e.symm⟩⟩⟩
        · have hpb : decide (z < (ps.length : Int)) = false := decide_eq_false (by omega)
          have hfin := HW.out.2.1
          rw [List.drop_of_length_le (show ps.length ≤ i by omega)] at hfin
          have HFIN := Aside0.mk (show cur = crashB (ws.map toW) ps bl by rw [← hfin]; cases (ws.map toW).drop i <;> rfl)
          clear hfin hip
          have hz0 : wr.cell? ⟨g6, 0, none⟩ = some (.slice none 0 0) := (blk_cell HRL.out.res 0).trans rfl
          have hzf0 : wr.frozen? ⟨g6, 0, none⟩ = false := blk_frozen HRL.out.res 0
          have hz1 : wr.cell? ⟨g6, 1, none⟩ = some (.slice none 0 0) := (blk_cell HRL.out.res 1).trans rfl
          have hzf1 : wr.frozen? ⟨g6, 1, none⟩ = false := blk_frozen HRL.out.res 1
          have hz2 : wr.cell? ⟨g6, 2, none⟩ = some (.slice none 0 0) := (blk_cell HRL.out.res 2).trans rfl
          have hzf2 : wr.frozen? ⟨g6, 2, none⟩ = false := blk_frozen HRL.out.res 2
          have hz3 : wr.cell? ⟨g6, 3, none⟩ = some (.bool false) := (blk_cell HRL.out.res 3).trans rfl
          have hzf3 : wr.frozen? ⟨g6, 3, none⟩ = false := blk_frozen HRL.out.res 3
          have hz4 : wr.cell? ⟨g6, 4, none⟩ = some (.bool false) := (blk_cell HRL.out.res 4).trans rfl
          have hzf4 : wr.frozen? ⟨g6, 4, none⟩ = false := blk_frozen HRL.out.res 4
          have hz5 : wr.cell? ⟨g6, 5, none⟩ = some (.int .i64 0) := (blk_cell HRL.out.res 5).trans rfl
          have hzf5 : wr.frozen? ⟨g6, 5, none⟩ = false := blk_frozen HRL.out.res 5
          clear hz hk hil hi
          go_wp2
          refine bodyPost_ret (results_cell_row rfl _ _ g6 102 (stC (.slice C0 cur.length e0) (.slice none 0 0) (.slice A2 bad.length c2) false false 0) (0, 0) _ rfl (set6_blk (blk_far (blk_far (blk_far (blk_far HRL.out.res (p := ⟨g3, 1, none⟩) HNE.out _) (p := ⟨g3, 3, none⟩) HNE.out _) (p := ⟨g3, 4, none⟩) HNE.out _) (p := ⟨g3, 5, none⟩) HNE.out _) rfl _ _ _ _ _ _) Try.underlying102 rfl (by kernel_rfl)) rfl ?_
          have hgs := HGS.out
          have hg3 := Nat.lt_trans hgs.2.2.1 hgs.2.2.2
          have HSF := Aside0.mk (show RSt (Off P w.heap.size w2.heap.size) (.slice C0 cur.length e0) (.slice none 0 0) (.slice A2 bad.length c2) (crashB (ws.map toW) ps bl) [] bad wr from ⟨by rw [← HFIN.out]; exact HRL.out.st.b, Kd.V_nil _ _ _ _ _, HRL.out.st.d⟩)
          refine ⟨_, rfl, _, _, _, rfl, (HSF.out).fin (by omega) (fun k hk => (set6_far (hk.ne hgs.2.1 hgs.2.2.2) _ _ _ _ _ _).trans ((Below.heap_setCell _ ⟨g3, 5, none⟩ _ _ (hk.ne hgs.1 hg3)).trans ((Below.heap_setCell _ ⟨g3, 4, none⟩ _ _ (hk.ne hgs.1 hg3)).trans ((Below.heap_setCell _ ⟨g3, 3, none⟩ _ _ (hk.ne hgs.1 hg3)).trans (Below.heap_setCell _ ⟨g3, 1, none⟩ _ _ (hk.ne hgs.1 hg3)))))), set6_below ((((HRL.out.below.setCell (p := ⟨g3, 1, none⟩) hgs.1 _).setCell (p := ⟨g3, 3, none⟩) hgs.1 _).setCell (p := ⟨g3, 4, none⟩) hgs.1 _).setCell (p := ⟨g3, 5, none⟩) hgs.1 _) hgs.2.1 _ _ _ _ _ _⟩
      · have hib : decide (z < (ws.length : Int)) = false := decide_eq_false (by omega)
        have hfin := HW.out.2.1
        rw [List.drop_of_length_le (show (ws.map toW).length ≤ i by rw [List.length_map]; omega)] at hfin
        have HFIN := Aside0.mk (show cur = crashB (ws.map toW) ps bl by rw [← hfin]; cases ps.drop i <;> rfl)
        clear hfin
        have hz0 : wr.cell? ⟨g6, 0, none⟩ = some (.slice none 0 0) := (blk_cell HRL.out.res 0).trans rfl
        have hzf0 : wr.frozen? ⟨g6, 0, none⟩ = false := blk_frozen HRL.out.res 0
        have hz1 : wr.cell? ⟨g6, 1, none⟩ = some (.slice none 0 0) := (blk_cell HRL.out.res 1).trans rfl
        have hzf1 : wr.frozen? ⟨g6, 1, none⟩ = false := blk_frozen HRL.out.res 1
        have hz2 : wr.cell? ⟨g6, 2, none⟩ = some (.slice none 0 0) := (blk_cell HRL.out.res 2).trans rfl
        have hzf2 : wr.frozen? ⟨g6, 2, none⟩ = false := blk_frozen HRL.out.res 2
        have hz3 : wr.cell? ⟨g6, 3, none⟩ = some (.bool false) := (blk_cell HRL.out.res 3).trans rfl
        have hzf3 : wr.frozen? ⟨g6, 3, none⟩ = false := blk_frozen HRL.out.res 3
        have hz4 : wr.cell? ⟨g6, 4, none⟩ = some (.bool false) := (blk_cell HRL.out.res 4).trans rfl
        have hzf4 : wr.frozen? ⟨g6, 4, none⟩ = false := blk_frozen HRL.out.res 4
        have hz5 : wr.cell? ⟨g6, 5, none⟩ = some (.int .i64 0) := (blk_cell HRL.out.res 5).trans rfl
        have hzf5 : wr.frozen? ⟨g6, 5, none⟩ = false := blk_frozen HRL.out.res 5
        clear hz hk hil hi
        go_wp2
        refine bodyPost_ret (results_cell_row rfl _ _ g6 102 (stC (.slice C0 cur.length e0) (.slice none 0 0) (.slice A2 bad.length c2) false false 0) (0, 0) _ rfl (set6_blk (blk_far (blk_far (blk_far (blk_far HRL.out.res (p := ⟨g3, 1, none⟩) HNE.out _) (p := ⟨g3, 3, none⟩) HNE.out _) (p := ⟨g3, 4, none⟩) HNE.out _) (p := ⟨g3, 5, none⟩) HNE.out _) rfl _ _ _ _ _ _) Try.underlying102 rfl (by kernel_rfl)) rfl ?_
        have hgs := HGS.out
        have hg3 := Nat.lt_trans hgs.2.2.1 hgs.2.2.2
        have HSF := Aside0.mk (show RSt (Off P w.heap.size w2.heap.size) (.slice C0 cur.length e0) (.slice none 0 0) (.slice A2 bad.length c2) (crashB (ws.map toW) ps bl) [] bad wr from ⟨by rw [← HFIN.out]; exact HRL.out.st.b, Kd.V_nil _ _ _ _ _, HRL.out.st.d⟩)
        refine ⟨_, rfl, _, _, _, rfl, (HSF.out).fin (by omega) (fun k hk => (set6_far (hk.ne hgs.2.1 hgs.2.2.2) _ _ _ _ _ _).trans ((Below.heap_setCell _ ⟨g3, 5, none⟩ _ _ (hk.ne hgs.1 hg3)).trans ((Below.heap_setCell _ ⟨g3, 4, none⟩ _ _ (hk.ne hgs.1 hg3)).trans ((Below.heap_setCell _ ⟨g3, 3, none⟩ _ _ (hk.ne hgs.1 hg3)).trans (Below.heap_setCell _ ⟨g3, 1, none⟩ _ _ (hk.ne hgs.1 hg3)))))), set6_below ((((HRL.out.below.setCell (p := ⟨g3, 1, none⟩) hgs.1 _).setCell (p := ⟨g3, 3, none⟩) hgs.1 _).setCell (p := ⟨g3, 4, none⟩) hgs.1 _).setCell (p := ⟨g3, 5, none⟩) hgs.1 _) hgs.2.1 _ _ _ _ _ _⟩

end Go.Proofs.Ytdbfclfglpbpmaa.Dsk
