/- The document's Put, its main way. No condition. -/
import Derived.Test.YtdbfclfglpbpmaaDskO
namespace Go.Proofs.Ytdbfclfglpbpmaa.Dsk
open Go.AnyFacts Go.Proofs.Ytdbfclfglpbpmaa.Sha Go.RowKit Go.Proofs.YtdbfclfglpbpmaaW.Hand Go.Proofs.YtdbfclfglpbpmaaW.PrintWords Go.Proofs.YtdbfclfglpbpmaaW.PrintLast Go.Proofs.YtdbfclfglpbpmaaW.PrintMore Go.Proofs.Ytdbfclfglpbpmaa.PF21 Go.Proofs.Ytdbfclfglpbpmaa.Base Go.Proofs.Ytdbfclfglpbpmaa.LF21
attribute [local go_sem] max2_int min2_int max_two min_two max_three min_three max_four min_four
set_option linter.unusedVariables false
set_option linter.unusedSimpArgs false
theorem set6_size (w : World) (g : Nat) (a b c d e f : Value) : (set6 w g a b c d e f).heap.size = w.heap.size := by simp only [set6, World.size_setCell]

theorem RSt.step' {P : Nat → Prop} {v0 v1 v2 : Value} {bl : List (List Int)} {ws : List S183} {bad : List Int} {down cut : Bool} {left : Int} {w : World} (s : RSt P v0 v1 v2 bl ws bad w) (hl : 0 ≤ left ∧ left ≤ 9223372036854775807) {dn : Bool} {lf : Int} {okb : Bool} (hrs : rstep down cut left = (dn, lf, okb)) : Calls Try.prog 104 #[.agg (stC v0 v1 v2 down cut left)] w fun e w' => ∃ A0 c0 A1 c1 A2 c2, e = .returned (.tuple #[.agg #[.slice A0 bl.length c0, .slice A1 ws.length c1, .slice A2 bad.length c2, .bool dn, .bool cut, .int .i64 lf], .bool okb]) ∧ RSt (fun k => P k ∨ w.heap.size ≤ k) (.slice A0 bl.length c0) (.slice A1 ws.length c1) (.slice A2 bad.length c2) bl ws bad w' ∧ Below w.heap.size w w' := by
  refine (s.step_ hl).mono ?_
  rintro e w' ⟨v0', v1', v2', rfl, h, hb⟩
  rw [hrs]
  obtain ⟨A0, c0, rfl⟩ := Kd.V_slice h.b
  obtain ⟨A1, c1, rfl⟩ := Kd.V_slice h.q
  obtain ⟨A2, c2, rfl⟩ := Kd.V_slice h.d
  exact ⟨A0, c0, A1, c1, A2, c2, rfl, h, hb⟩
theorem Off.more {P : Nat → Prop} {N0 N1 M : Nat} (h : N1 ≤ M) {k : Nat} (hk : Off P N0 N1 k ∨ M ≤ k) : Off P N0 N1 k := hk.elim id (fun h2 => .inr (Nat.le_trans h h2))
theorem V_Fb {α : Type} {d : Kd α} {e : Nat} {w : World} {b : Nat} {P : Nat → Prop} {A : Option Addr} {n c : Nat} {xs : List α} (h : Kd.V d e w b P (.slice A n c) xs) : Kd.F d w (fun k => P k ∧ k < w.heap.size) A n xs := Kd.F_bound (Kd.V_F h)
set_option maxHeartbeats 8000000 in
set_option maxRecDepth 100000 in
theorem RSt.Put_main {P : Nat → Prop} {v0 v1 v2 : Value} {bl : List (List Int)} {ws : List S183} {bad : List Int} {down cut : Bool} {left : Int} {w : World} (s : RSt P v0 v1 v2 bl ws bad w) (hd : down = false) (n : Int) (Ab : Option Addr) (cb : Nat) (b : List Int) (hC : Kd.C (Kd.int .u8) w Ab b.length b) (hcb : b.length ≤ cb) (hn : 0 ≤ n ∧ n < (bl.length : Int)) (hb : b.length = 256) (hl : 0 ≤ left ∧ left ≤ 9223372036854775807) (hwl : ws.length ≤ 1000) (hbl : bad.length ≤ 1000) : Calls Try.prog 80 #[.agg (stC v0 v1 v2 down cut left), .int .i64 n, .slice Ab b.length cb] w fun e w' => ∃ v, e = .returned (.tuple #[v, .int .i64 (rPut bl.length ws bad down cut left n b).1]) ∧ RPost P w bl (rPut bl.length ws bad down cut left n b).2.1 bad (rPut bl.length ws bad down cut left n b).2.2.1 cut (rPut bl.length ws bad down cut left n b).2.2.2 v w' := by
  have hR : rPut bl.length ws bad down cut left n b = if n ∈ bad then (17, ws, false, left) else if (rstep false cut left).2.2 then (0, ws ++ [⟨n, b⟩], (rstep false cut left).1, (rstep false cut left).2.1) else (19, ws, (rstep false cut left).1, (rstep false cut left).2.1) := by
    unfold rPut
    rw [hd, if_neg (by decide), if_neg (by intro h; exact h.elim (fun h => h hn) (fun h => h hb))]
  rw [hR]
  clear hR
  obtain ⟨dn, lf, okb, hrs⟩ : ∃ dn lf okb, rstep false cut left = (dn, lf, okb) := ⟨_, _, _, rfl⟩
  rw [hrs]
  obtain ⟨rc, rws, rdn, rlf, hres⟩ : ∃ rc rws rdn rlf, (if n ∈ bad then ((17 : Int), ws, false, left) else if okb then (0, ws ++ [⟨n, b⟩], dn, lf) else (19, ws, dn, lf)) = (rc, rws, rdn, rlf) := ⟨_, _, _, _, rfl⟩
  have hres' : (if n ∈ bad then ((17 : Int), ws, false, left) else if (dn, lf, okb).2.2 then (0, ws ++ [⟨n, b⟩], (dn, lf, okb).1, (dn, lf, okb).2.1) else (19, ws, (dn, lf, okb).1, (dn, lf, okb).2.1)) = (rc, rws, rdn, rlf) := hres
  rw [hres']
  have HRES := Aside0.mk hres
  clear hres hres'
  obtain ⟨A0, c0, rfl⟩ := Kd.V_slice s.b
  obtain ⟨A1, c1, rfl⟩ := Kd.V_slice s.q
  obtain ⟨A2, c2, rfl⟩ := Kd.V_slice s.d
  have HS := Aside0.mk s
  clear s
  subst hd
  have HRS := Aside0.mk hrs
  have HL := Aside0.mk hl
  have HWSL := Aside0.mk hwl
  have HBDL := Aside0.mk hbl
  have HBL := Aside0.mk hb
  have HC := Aside0.mk hC
  have hth : decide (0 ≤ n ∧ n < (bl.length : Int)) = true := decide_eq_true hn
  have hlen : ((b.length : Int) != 256) = false := by simp; omega
  clear hC hcb hn hb hl hwl hbl hrs
  go_enter Try.func80, Try.ntmps80
  go_wp2_with (first
    | ((with_reducible refine gate_dst (N := 3) rfl ?_); refine L_box rfl 102 (.tmp 0) rfl (.agg #[.slice A0 bl.length c0, .slice A1 ws.length c1, .slice A2 bad.length c2, .bool false, .bool cut, .int .i64 left]) rfl ?_; intro g3 w1 hb hg hs hl; have HKg3 := Aside0.mk hb; have HGg3 := Aside0.mk hg; have HLg3 := Aside0.mk hl; clear hb hg hs hl)
    | ((with_reducible refine gate_dst (N := 6) rfl ?_); refine L_alloc rfl 102 rfl (.agg #[.slice none 0 0, .slice none 0 0, .slice none 0 0, .bool false, .bool false, .int .i64 0]) 6 (by kernel_rfl) ?_; intro g6 w2 hb hg hs hl; have HKg6 := Aside0.mk hb; have HGg6 := Aside0.mk hg; have HLg6 := Aside0.mk hl; clear hb hg hs hl; have HB2 := Aside0.mk (below_step HLg3.out HLg6.out); have HK32 := Aside0.mk (blk_below HKg3.out HLg6.out); have HGS := Aside0.mk (show w.heap.size ≤ g3 ∧ w.heap.size ≤ g6 ∧ g3 < g6 ∧ g6 < w2.heap.size from by have h1 := HGg3.out; have h3 := HGg6.out; have h4 := blk_lt HKg3.out; have h6 := blk_lt HKg6.out; omega); have hne1 : g3 ≠ g6 := (by have := HGS.out; omega); have hne2 : g6 ≠ g3 := (fun e => hne1 e.symm); have HNE := Aside0.mk hne2; have HS2 := Aside0.mk (HS.out.below HB2.out); have HSO := Aside0.mk ((HS.out.off w2.heap.size).below HB2.out); have hc0 : w2.cell? ⟨g3, 0, none⟩ = some (.slice A0 bl.length c0) := (blk_cell HK32.out 0).trans rfl; have hcf0 : w2.frozen? ⟨g3, 0, none⟩ = false := blk_frozen HK32.out 0; have hc1 : w2.cell? ⟨g3, 1, none⟩ = some (.slice A1 ws.length c1) := (blk_cell HK32.out 1).trans rfl; have hcf1 : w2.frozen? ⟨g3, 1, none⟩ = false := blk_frozen HK32.out 1; have hc2 : w2.cell? ⟨g3, 2, none⟩ = some (.slice A2 bad.length c2) := (blk_cell HK32.out 2).trans rfl; have hcf2 : w2.frozen? ⟨g3, 2, none⟩ = false := blk_frozen HK32.out 2; have hc3 : w2.cell? ⟨g3, 3, none⟩ = some (.bool false) := (blk_cell HK32.out 3).trans rfl; have hcf3 : w2.frozen? ⟨g3, 3, none⟩ = false := blk_frozen HK32.out 3; have hc4 : w2.cell? ⟨g3, 4, none⟩ = some (.bool cut) := (blk_cell HK32.out 4).trans rfl; have hcf4 : w2.frozen? ⟨g3, 4, none⟩ = false := blk_frozen HK32.out 4; have hc5 : w2.cell? ⟨g3, 5, none⟩ = some (.int .i64 left) := (blk_cell HK32.out 5).trans rfl; have hcf5 : w2.frozen? ⟨g3, 5, none⟩ = false := blk_frozen HK32.out 5; have hz0 : w2.cell? ⟨g6, 0, none⟩ = some (.slice none 0 0) := (blk_cell HKg6.out 0).trans rfl; have hzf0 : w2.frozen? ⟨g6, 0, none⟩ = false := blk_frozen HKg6.out 0; have hz1 : w2.cell? ⟨g6, 1, none⟩ = some (.slice none 0 0) := (blk_cell HKg6.out 1).trans rfl; have hzf1 : w2.frozen? ⟨g6, 1, none⟩ = false := blk_frozen HKg6.out 1; have hz2 : w2.cell? ⟨g6, 2, none⟩ = some (.slice none 0 0) := (blk_cell HKg6.out 2).trans rfl; have hzf2 : w2.frozen? ⟨g6, 2, none⟩ = false := blk_frozen HKg6.out 2; have hz3 : w2.cell? ⟨g6, 3, none⟩ = some (.bool false) := (blk_cell HKg6.out 3).trans rfl; have hzf3 : w2.frozen? ⟨g6, 3, none⟩ = false := blk_frozen HKg6.out 3; have hz4 : w2.cell? ⟨g6, 4, none⟩ = some (.bool false) := (blk_cell HKg6.out 4).trans rfl; have hzf4 : w2.frozen? ⟨g6, 4, none⟩ = false := blk_frozen HKg6.out 4; have hz5 : w2.cell? ⟨g6, 5, none⟩ = some (.int .i64 0) := (blk_cell HKg6.out 5).trans rfl; have hzf5 : w2.frozen? ⟨g6, 5, none⟩ = false := blk_frozen HKg6.out 5)
    | (go_at_call 103; refine (HS2.out.there n).mono ?_; rintro e w3 ⟨rfl, hb⟩; (try rw [hth]); have HB3 := Aside0.mk (below_step HB2.out hb); have HB23 := Aside0.mk hb; have HS3 := Aside0.mk (HSO.out.below hb); have HK33 := Aside0.mk (blk_below HK32.out hb); have HK63 := Aside0.mk (blk_below HKg6.out hb); clear hc0 hcf0 hz0 hzf0 hc1 hcf1 hz1 hzf1 hc2 hcf2 hz2 hzf2 hc3 hcf3 hz3 hzf3 hc4 hcf4 hz4 hzf4 hc5 hcf5 hz5 hzf5; have hc0 : w3.cell? ⟨g3, 0, none⟩ = some (.slice A0 bl.length c0) := (blk_cell HK33.out 0).trans rfl; have hcf0 : w3.frozen? ⟨g3, 0, none⟩ = false := blk_frozen HK33.out 0; have hc1 : w3.cell? ⟨g3, 1, none⟩ = some (.slice A1 ws.length c1) := (blk_cell HK33.out 1).trans rfl; have hcf1 : w3.frozen? ⟨g3, 1, none⟩ = false := blk_frozen HK33.out 1; have hc2 : w3.cell? ⟨g3, 2, none⟩ = some (.slice A2 bad.length c2) := (blk_cell HK33.out 2).trans rfl; have hcf2 : w3.frozen? ⟨g3, 2, none⟩ = false := blk_frozen HK33.out 2; have hc3 : w3.cell? ⟨g3, 3, none⟩ = some (.bool false) := (blk_cell HK33.out 3).trans rfl; have hcf3 : w3.frozen? ⟨g3, 3, none⟩ = false := blk_frozen HK33.out 3; have hc4 : w3.cell? ⟨g3, 4, none⟩ = some (.bool cut) := (blk_cell HK33.out 4).trans rfl; have hcf4 : w3.frozen? ⟨g3, 4, none⟩ = false := blk_frozen HK33.out 4; have hc5 : w3.cell? ⟨g3, 5, none⟩ = some (.int .i64 left) := (blk_cell HK33.out 5).trans rfl; have hcf5 : w3.frozen? ⟨g3, 5, none⟩ = false := blk_frozen HK33.out 5; have hz0 : w3.cell? ⟨g6, 0, none⟩ = some (.slice none 0 0) := (blk_cell HK63.out 0).trans rfl; have hzf0 : w3.frozen? ⟨g6, 0, none⟩ = false := blk_frozen HK63.out 0; have hz1 : w3.cell? ⟨g6, 1, none⟩ = some (.slice none 0 0) := (blk_cell HK63.out 1).trans rfl; have hzf1 : w3.frozen? ⟨g6, 1, none⟩ = false := blk_frozen HK63.out 1; have hz2 : w3.cell? ⟨g6, 2, none⟩ = some (.slice none 0 0) := (blk_cell HK63.out 2).trans rfl; have hzf2 : w3.frozen? ⟨g6, 2, none⟩ = false := blk_frozen HK63.out 2; have hz3 : w3.cell? ⟨g6, 3, none⟩ = some (.bool false) := (blk_cell HK63.out 3).trans rfl; have hzf3 : w3.frozen? ⟨g6, 3, none⟩ = false := blk_frozen HK63.out 3; have hz4 : w3.cell? ⟨g6, 4, none⟩ = some (.bool false) := (blk_cell HK63.out 4).trans rfl; have hzf4 : w3.frozen? ⟨g6, 4, none⟩ = false := blk_frozen HK63.out 4; have hz5 : w3.cell? ⟨g6, 5, none⟩ = some (.int .i64 0) := (blk_cell HK63.out 5).trans rfl; have hzf5 : w3.frozen? ⟨g6, 5, none⟩ = false := blk_frozen HK63.out 5; clear hb))
  clear hc0 hcf0 hz0 hzf0 hc1 hcf1 hz1 hzf1 hc2 hcf2 hz2 hzf2 hc3 hcf3 hz3 hzf3 hc4 hcf4 hz4 hzf4 hc5 hcf5 hz5 hzf5
  go_loopg [8] (bad.length + 1) (fun kq v8 wr => ∃ (z : Int) (i : Nat), v8 = .int .i64 z ∧ Aside0 (z = (i : Int) ∧ i + kq = bad.length + 1 ∧ i ≤ bad.length) ∧ Aside0 (∀ j (hj : j < bad.length), j < i → bad[j] ≠ n) ∧ Aside0 (Below w3.heap.size w3 wr))
  case atStart => exact ⟨0, 0, rfl, ⟨rfl, by omega, by omega⟩, ⟨fun j hj h => absurd h (by omega)⟩, ⟨Below.refl _ _⟩⟩
  case round =>
    obtain ⟨z, i, rfl, HK, HNO, HRW⟩ := hrel
    obtain ⟨hz, hk, hil⟩ := HK.out
    cases gk with
    | zero => omega
    | succ k1 =>
      have HK3R := Aside0.mk (blk_below HK33.out HRW.out)
      have HK6R := Aside0.mk (blk_below HK63.out HRW.out)
      have HBR := Aside0.mk (below_step HB3.out HRW.out)
      have HSR := Aside0.mk (HS3.out.below HRW.out)
      have hc0 : wr.cell? ⟨g3, 0, none⟩ = some (.slice A0 bl.length c0) := (blk_cell HK3R.out 0).trans rfl
      have hcf0 : wr.frozen? ⟨g3, 0, none⟩ = false := blk_frozen HK3R.out 0
      have hc1 : wr.cell? ⟨g3, 1, none⟩ = some (.slice A1 ws.length c1) := (blk_cell HK3R.out 1).trans rfl
      have hcf1 : wr.frozen? ⟨g3, 1, none⟩ = false := blk_frozen HK3R.out 1
      have hc2 : wr.cell? ⟨g3, 2, none⟩ = some (.slice A2 bad.length c2) := (blk_cell HK3R.out 2).trans rfl
      have hcf2 : wr.frozen? ⟨g3, 2, none⟩ = false := blk_frozen HK3R.out 2
      have hc3 : wr.cell? ⟨g3, 3, none⟩ = some (.bool false) := (blk_cell HK3R.out 3).trans rfl
      have hcf3 : wr.frozen? ⟨g3, 3, none⟩ = false := blk_frozen HK3R.out 3
      have hc4 : wr.cell? ⟨g3, 4, none⟩ = some (.bool cut) := (blk_cell HK3R.out 4).trans rfl
      have hcf4 : wr.frozen? ⟨g3, 4, none⟩ = false := blk_frozen HK3R.out 4
      have hc5 : wr.cell? ⟨g3, 5, none⟩ = some (.int .i64 left) := (blk_cell HK3R.out 5).trans rfl
      have hcf5 : wr.frozen? ⟨g3, 5, none⟩ = false := blk_frozen HK3R.out 5
      have hz0 : wr.cell? ⟨g6, 0, none⟩ = some (.slice none 0 0) := (blk_cell HK6R.out 0).trans rfl
      have hzf0 : wr.frozen? ⟨g6, 0, none⟩ = false := blk_frozen HK6R.out 0
      have hz1 : wr.cell? ⟨g6, 1, none⟩ = some (.slice none 0 0) := (blk_cell HK6R.out 1).trans rfl
      have hzf1 : wr.frozen? ⟨g6, 1, none⟩ = false := blk_frozen HK6R.out 1
      have hz2 : wr.cell? ⟨g6, 2, none⟩ = some (.slice none 0 0) := (blk_cell HK6R.out 2).trans rfl
      have hzf2 : wr.frozen? ⟨g6, 2, none⟩ = false := blk_frozen HK6R.out 2
      have hz3 : wr.cell? ⟨g6, 3, none⟩ = some (.bool false) := (blk_cell HK6R.out 3).trans rfl
      have hzf3 : wr.frozen? ⟨g6, 3, none⟩ = false := blk_frozen HK6R.out 3
      have hz4 : wr.cell? ⟨g6, 4, none⟩ = some (.bool false) := (blk_cell HK6R.out 4).trans rfl
      have hzf4 : wr.frozen? ⟨g6, 4, none⟩ = false := blk_frozen HK6R.out 4
      have hz5 : wr.cell? ⟨g6, 5, none⟩ = some (.int .i64 0) := (blk_cell HK6R.out 5).trans rfl
      have hzf5 : wr.frozen? ⟨g6, 5, none⟩ = false := blk_frozen HK6R.out 5
      by_cases hi : i < bad.length
      · have hib : decide (z < (bad.length : Int)) = true := decide_eq_true (by omega)
        have hwr : wrap64 (z + 1) = ((i + 1 : Nat) : Int) := by have := HBDL.out; rw [w64 (by omega) (by omega)]; omega
        have HWR := Aside0.mk hwr
        have HI := Aside0.mk hi
        have hC2 := Kd.F_now (Kd.V_F HSR.out.d)
        obtain ⟨adb, eab, hx⟩ := Kd.at_int hC2 z (by omega) (by omega)
        have hrd : rd bad z = bad[i] := by rw [hz, rd_lt hi]
        rw [hrd] at hx
        obtain ⟨y, hy⟩ : ∃ y, y = bad[i] := ⟨_, rfl⟩
        rw [← hy] at hx
        cases eab
        have p1 := eq_true (show (0 : Int) ≤ z by omega)
        have q1 := eq_true (show z < (bad.length : Int) by omega)
        by_cases hyn : y = n
        · have hyb : (y == n) = true := beq_iff_eq.mpr hyn
          have hnn : (n == n) = true := beq_self_eq_true n
          have HMEM := Aside0.mk (show n ∈ bad from by rw [← hyn, hy]; exact List.getElem_mem hi)
          clear hz hk hil hi hwr hC2 hrd hy hyn
          go_wp2
          refine bodyPost_ret (results_ct rfl _ _ g6 102 (stC (.slice A0 bl.length c0) (.slice A1 ws.length c1) (.slice (some adb) bad.length c2) false cut (left)) (0, 0) _ rfl (set6_blk (HK6R.out) rfl _ _ _ _ _ _) Try.underlying102 rfl (by kernel_rfl)) rfl ?_
          have hres := HRES.out
          first | rw [if_pos HMEM.out] at hres | rw [if_neg HNM.out] at hres
          simp only [if_true, Bool.false_eq_true, if_false, Prod.mk.injEq] at hres
          obtain ⟨rfl, rfl, rfl, rfl⟩ := hres
          have hgs := HGS.out
          refine ⟨_, rfl, _, _, _, rfl, (HSR.out).fin (by omega) (fun k hk => set6_far (hk.ne hgs.2.1 hgs.2.2.2) _ _ _ _ _ _), set6_below HBR.out hgs.2.1 _ _ _ _ _ _⟩
        · have hyb : (y == n) = false := beq_eq_false_iff_ne.mpr hyn
          have HNO2 := Aside0.mk (show ∀ j (hj : j < bad.length), j < i + 1 → bad[j] ≠ n from fun j hj h => by
            by_cases e : j = i
            · subst e
              rw [← hy]
              exact hyn
            · exact HNO.out j hj (by omega))
          clear hz hk hil hi hwr hC2 hrd hy hyn
          go_wp2
          go_roundg k1
          case measure => have := HK.out.2.1; omega
          case rel => exact ⟨wrap64 (z + 1), i + 1, rfl, ⟨HWR.out, by have := HK.out.2.1; omega, by have := HI.out; omega⟩, HNO2, HRW⟩
      · have hib : decide (z < (bad.length : Int)) = false := decide_eq_false (by omega)
        have hnm : n ∉ bad := by
          intro hm
          obtain ⟨j, hj, e⟩ := List.mem_iff_getElem.1 hm
          exact HNO.out j hj (by omega) e
        have HNM := Aside0.mk hnm
        clear hz hk hil hi hnm
        cases okb with
        | false =>
          go_wp2_with (first
            | (go_at_call 104; refine (HSR.out.step' HL.out HRS.out).mono ?_; rintro e w5 ⟨B0, d0, B1, d1, B2, d2, rfl, h, hb⟩; have HB5 := Aside0.mk (below_step HBR.out hb); have HS5 := Aside0.mk (h.mono (fun k hk => Off.more (Nat.le_trans HB23.out.size HRW.out.size) hk)); have HK35 := Aside0.mk (blk_below HK3R.out hb); have HK65 := Aside0.mk (blk_below HK6R.out hb); have HN5 := Aside0.mk (show w2.heap.size ≤ w5.heap.size from Nat.le_trans HB23.out.size (Nat.le_trans HRW.out.size hb.size)); clear hc0 hcf0 hz0 hzf0 hc1 hcf1 hz1 hzf1 hc2 hcf2 hz2 hzf2 hc3 hcf3 hz3 hzf3 hc4 hcf4 hz4 hzf4 hc5 hcf5 hz5 hzf5; have hc0 : w5.cell? ⟨g3, 0, none⟩ = some (.slice A0 bl.length c0) := (blk_cell HK35.out 0).trans rfl; have hcf0 : w5.frozen? ⟨g3, 0, none⟩ = false := blk_frozen HK35.out 0; have hc1 : w5.cell? ⟨g3, 1, none⟩ = some (.slice A1 ws.length c1) := (blk_cell HK35.out 1).trans rfl; have hcf1 : w5.frozen? ⟨g3, 1, none⟩ = false := blk_frozen HK35.out 1; have hc2 : w5.cell? ⟨g3, 2, none⟩ = some (.slice A2 bad.length c2) := (blk_cell HK35.out 2).trans rfl; have hcf2 : w5.frozen? ⟨g3, 2, none⟩ = false := blk_frozen HK35.out 2; have hc3 : w5.cell? ⟨g3, 3, none⟩ = some (.bool false) := (blk_cell HK35.out 3).trans rfl; have hcf3 : w5.frozen? ⟨g3, 3, none⟩ = false := blk_frozen HK35.out 3; have hc4 : w5.cell? ⟨g3, 4, none⟩ = some (.bool cut) := (blk_cell HK35.out 4).trans rfl; have hcf4 : w5.frozen? ⟨g3, 4, none⟩ = false := blk_frozen HK35.out 4; have hc5 : w5.cell? ⟨g3, 5, none⟩ = some (.int .i64 left) := (blk_cell HK35.out 5).trans rfl; have hcf5 : w5.frozen? ⟨g3, 5, none⟩ = false := blk_frozen HK35.out 5; have hz0 : w5.cell? ⟨g6, 0, none⟩ = some (.slice none 0 0) := (blk_cell HK65.out 0).trans rfl; have hzf0 : w5.frozen? ⟨g6, 0, none⟩ = false := blk_frozen HK65.out 0; have hz1 : w5.cell? ⟨g6, 1, none⟩ = some (.slice none 0 0) := (blk_cell HK65.out 1).trans rfl; have hzf1 : w5.frozen? ⟨g6, 1, none⟩ = false := blk_frozen HK65.out 1; have hz2 : w5.cell? ⟨g6, 2, none⟩ = some (.slice none 0 0) := (blk_cell HK65.out 2).trans rfl; have hzf2 : w5.frozen? ⟨g6, 2, none⟩ = false := blk_frozen HK65.out 2; have hz3 : w5.cell? ⟨g6, 3, none⟩ = some (.bool false) := (blk_cell HK65.out 3).trans rfl; have hzf3 : w5.frozen? ⟨g6, 3, none⟩ = false := blk_frozen HK65.out 3; have hz4 : w5.cell? ⟨g6, 4, none⟩ = some (.bool false) := (blk_cell HK65.out 4).trans rfl; have hzf4 : w5.frozen? ⟨g6, 4, none⟩ = false := blk_frozen HK65.out 4; have hz5 : w5.cell? ⟨g6, 5, none⟩ = some (.int .i64 0) := (blk_cell HK65.out 5).trans rfl; have hzf5 : w5.frozen? ⟨g6, 5, none⟩ = false := blk_frozen HK65.out 5; have HS6 := Aside0.mk (RSt.offs (w' := (set6 w5 g3 (.slice B0 bl.length d0) (.slice B1 ws.length d1) (.slice B2 bad.length d2) (.bool dn) (.bool cut) (.int .i64 lf))) HS5.out (fun k hk => set6_far (hk.ne HGS.out.1 (by have := HGS.out; omega)) _ _ _ _ _ _)); have HB6 := Aside0.mk (set6_below HB5.out HGS.out.1 (.slice B0 bl.length d0) (.slice B1 ws.length d1) (.slice B2 bad.length d2) (.bool dn) (.bool cut) (.int .i64 lf)); have HK36 := Aside0.mk (set6_blk HK35.out rfl (.slice B0 bl.length d0) (.slice B1 ws.length d1) (.slice B2 bad.length d2) (.bool dn) (.bool cut) (.int .i64 lf)); have HK66 := Aside0.mk (show ((set6 w5 g3 (.slice B0 bl.length d0) (.slice B1 ws.length d1) (.slice B2 bad.length d2) (.bool dn) (.bool cut) (.int .i64 lf))).heap[g6]? = _ from (set6_far HNE.out _ _ _ _ _ _).trans HK65.out); have HN6 := Aside0.mk (show w2.heap.size ≤ ((set6 w5 g3 (.slice B0 bl.length d0) (.slice B1 ws.length d1) (.slice B2 bad.length d2) (.bool dn) (.bool cut) (.int .i64 lf))).heap.size from by rw [set6_size]; exact HN5.out); clear h hb))
          go_wp2
          refine bodyPost_ret (results_ct rfl _ _ g6 102 (stC (.slice B0 bl.length d0) (.slice B1 ws.length d1) (.slice B2 bad.length d2) dn cut (lf)) (0, 0) _ rfl (set6_blk (HK66.out) rfl _ _ _ _ _ _) Try.underlying102 rfl (by kernel_rfl)) rfl ?_
          have hres := HRES.out
          first | rw [if_pos HMEM.out] at hres | rw [if_neg HNM.out] at hres
          simp only [if_true, Bool.false_eq_true, if_false, Prod.mk.injEq] at hres
          obtain ⟨rfl, rfl, rfl, rfl⟩ := hres
          have hgs := HGS.out
          refine ⟨_, rfl, _, _, _, rfl, (HS6.out).fin (by omega) (fun k hk => set6_far (hk.ne hgs.2.1 hgs.2.2.2) _ _ _ _ _ _), set6_below HB6.out hgs.2.1 _ _ _ _ _ _⟩
        | true =>
          go_wp2_with (first
            | (go_at_call 104; refine (HSR.out.step' HL.out HRS.out).mono ?_; rintro e w5 ⟨B0, d0, B1, d1, B2, d2, rfl, h, hb⟩; have HB5 := Aside0.mk (below_step HBR.out hb); have HS5 := Aside0.mk (h.mono (fun k hk => Off.more (Nat.le_trans HB23.out.size HRW.out.size) hk)); have HK35 := Aside0.mk (blk_below HK3R.out hb); have HK65 := Aside0.mk (blk_below HK6R.out hb); have HN5 := Aside0.mk (show w2.heap.size ≤ w5.heap.size from Nat.le_trans HB23.out.size (Nat.le_trans HRW.out.size hb.size)); clear hc0 hcf0 hz0 hzf0 hc1 hcf1 hz1 hzf1 hc2 hcf2 hz2 hzf2 hc3 hcf3 hz3 hzf3 hc4 hcf4 hz4 hzf4 hc5 hcf5 hz5 hzf5; have hc0 : w5.cell? ⟨g3, 0, none⟩ = some (.slice A0 bl.length c0) := (blk_cell HK35.out 0).trans rfl; have hcf0 : w5.frozen? ⟨g3, 0, none⟩ = false := blk_frozen HK35.out 0; have hc1 : w5.cell? ⟨g3, 1, none⟩ = some (.slice A1 ws.length c1) := (blk_cell HK35.out 1).trans rfl; have hcf1 : w5.frozen? ⟨g3, 1, none⟩ = false := blk_frozen HK35.out 1; have hc2 : w5.cell? ⟨g3, 2, none⟩ = some (.slice A2 bad.length c2) := (blk_cell HK35.out 2).trans rfl; have hcf2 : w5.frozen? ⟨g3, 2, none⟩ = false := blk_frozen HK35.out 2; have hc3 : w5.cell? ⟨g3, 3, none⟩ = some (.bool false) := (blk_cell HK35.out 3).trans rfl; have hcf3 : w5.frozen? ⟨g3, 3, none⟩ = false := blk_frozen HK35.out 3; have hc4 : w5.cell? ⟨g3, 4, none⟩ = some (.bool cut) := (blk_cell HK35.out 4).trans rfl; have hcf4 : w5.frozen? ⟨g3, 4, none⟩ = false := blk_frozen HK35.out 4; have hc5 : w5.cell? ⟨g3, 5, none⟩ = some (.int .i64 left) := (blk_cell HK35.out 5).trans rfl; have hcf5 : w5.frozen? ⟨g3, 5, none⟩ = false := blk_frozen HK35.out 5; have hz0 : w5.cell? ⟨g6, 0, none⟩ = some (.slice none 0 0) := (blk_cell HK65.out 0).trans rfl; have hzf0 : w5.frozen? ⟨g6, 0, none⟩ = false := blk_frozen HK65.out 0; have hz1 : w5.cell? ⟨g6, 1, none⟩ = some (.slice none 0 0) := (blk_cell HK65.out 1).trans rfl; have hzf1 : w5.frozen? ⟨g6, 1, none⟩ = false := blk_frozen HK65.out 1; have hz2 : w5.cell? ⟨g6, 2, none⟩ = some (.slice none 0 0) := (blk_cell HK65.out 2).trans rfl; have hzf2 : w5.frozen? ⟨g6, 2, none⟩ = false := blk_frozen HK65.out 2; have hz3 : w5.cell? ⟨g6, 3, none⟩ = some (.bool false) := (blk_cell HK65.out 3).trans rfl; have hzf3 : w5.frozen? ⟨g6, 3, none⟩ = false := blk_frozen HK65.out 3; have hz4 : w5.cell? ⟨g6, 4, none⟩ = some (.bool false) := (blk_cell HK65.out 4).trans rfl; have hzf4 : w5.frozen? ⟨g6, 4, none⟩ = false := blk_frozen HK65.out 4; have hz5 : w5.cell? ⟨g6, 5, none⟩ = some (.int .i64 0) := (blk_cell HK65.out 5).trans rfl; have hzf5 : w5.frozen? ⟨g6, 5, none⟩ = false := blk_frozen HK65.out 5; have HS6 := Aside0.mk (RSt.offs (w' := (set6 w5 g3 (.slice B0 bl.length d0) (.slice B1 ws.length d1) (.slice B2 bad.length d2) (.bool dn) (.bool cut) (.int .i64 lf))) HS5.out (fun k hk => set6_far (hk.ne HGS.out.1 (by have := HGS.out; omega)) _ _ _ _ _ _)); have HB6 := Aside0.mk (set6_below HB5.out HGS.out.1 (.slice B0 bl.length d0) (.slice B1 ws.length d1) (.slice B2 bad.length d2) (.bool dn) (.bool cut) (.int .i64 lf)); have HK36 := Aside0.mk (set6_blk HK35.out rfl (.slice B0 bl.length d0) (.slice B1 ws.length d1) (.slice B2 bad.length d2) (.bool dn) (.bool cut) (.int .i64 lf)); have HK66 := Aside0.mk (show ((set6 w5 g3 (.slice B0 bl.length d0) (.slice B1 ws.length d1) (.slice B2 bad.length d2) (.bool dn) (.bool cut) (.int .i64 lf))).heap[g6]? = _ from (set6_far HNE.out _ _ _ _ _ _).trans HK65.out); have HN6 := Aside0.mk (show w2.heap.size ≤ ((set6 w5 g3 (.slice B0 bl.length d0) (.slice B1 ws.length d1) (.slice B2 bad.length d2) (.bool dn) (.bool cut) (.int .i64 lf))).heap.size from by rw [set6_size]; exact HN5.out); clear h hb)
            | ((with_reducible refine gate_dst (N := 46) rfl ?_); refine Kd.N_lit k183 (w0 := w) w.heap.size 183 rfl (N' := 46) rfl (xs := ([] : List S183)) (inner := []) (ok := (Off P w.heap.size w2.heap.size)) (okp := fun _ => False) ?hr (Reps.none _ _) (fun _ hk => hk.elim) (.inr HN6.out) HB6.out HB6.out.size (by simp) ?_; (case hr => first | (go_simp; done) | (go_simp; rfl)); intro v7 w7 hn7 hb7 hg7 ho7; have HN7 := Aside0.mk hn7; have HB7 := Aside0.mk hb7; have HO7 := Aside0.mk (show ∃ b, v7.ownBlock = some b ∧ (set6 w5 g3 (.slice B0 bl.length d0) (.slice B1 ws.length d1) (.slice B2 bad.length d2) (.bool dn) (.bool cut) (.int .i64 lf)).heap.size ≤ b from ho7); have HB67 := Aside0.mk (show Below (set6 w5 g3 (.slice B0 bl.length d0) (.slice B1 ws.length d1) (.slice B2 bad.length d2) (.bool dn) (.bool cut) (.int .i64 lf)).heap.size (set6 w5 g3 (.slice B0 bl.length d0) (.slice B1 ws.length d1) (.slice B2 bad.length d2) (.bool dn) (.bool cut) (.int .i64 lf)) w7 from ⟨hg7.os, hg7.tape, hg7.output, hg7.size, fun k hk => hg7.block k hk (by simp)⟩); clear hc0 hcf0 hz0 hzf0 hc1 hcf1 hz1 hzf1 hc2 hcf2 hz2 hzf2 hc3 hcf3 hz3 hzf3 hc4 hcf4 hz4 hzf4 hc5 hcf5 hz5 hzf5; have hx31 : w7.cell? ⟨g3, 1, none⟩ = some (.slice B1 ws.length d1) := (blk_cell (blk_below HK36.out HB67.out) 1).trans rfl; clear hn7 hb7 hg7 ho7)
            | ((with_reducible refine gate_builtin (b := .append) (xs := #[.tmp 46, .tmp 48]) rfl ?_); at_builtin; refine Kd.N_append_rows k183 (w0 := w) w.heap.size rfl (.tmp 46) (.tmp 48) 100 183 (.agg #[.int .i64 0, .slice none 0 0]) 32 rfl Try.underlying100 info183 rfl (by decide) (by omega) v7 [] ws B1 ws.length d1 (Off P w.heap.size w2.heap.size) (fun k => Off P w.heap.size w2.heap.size k ∧ k < (set6 w5 g3 (.slice B0 bl.length d0) (.slice B1 ws.length d1) (.slice B2 bad.length d2) (.bool dn) (.bool cut) (.int .i64 lf)).heap.size) rfl rfl HN7.out (Kd.F_below (V_Fb HS6.out.q) HB67.out) (fun k hk => ⟨hk.1, fun e => by obtain ⟨b, hb, hle⟩ := HO7.out; rw [hb] at e; have e2 : k = b := Option.some.inj e; have := hk.2; omega⟩) (fun k hk => .inr (Nat.le_trans HN6.out (Nat.le_trans HB67.out.size hk))) HB7.out HB7.out.size (by have := HWSL.out; simp; omega) ?_; intro v8 w8 hn8 hb8 hg8 hat8; rw [List.nil_append] at hn8; have HN8 := Aside0.mk hn8; have HB8 := Aside0.mk hb8; have HB68 := Aside0.mk (show Below (set6 w5 g3 (.slice B0 bl.length d0) (.slice B1 ws.length d1) (.slice B2 bad.length d2) (.bool dn) (.bool cut) (.int .i64 lf)).heap.size (set6 w5 g3 (.slice B0 bl.length d0) (.slice B1 ws.length d1) (.slice B2 bad.length d2) (.bool dn) (.bool cut) (.int .i64 lf)) w8 from pw_below_grown HB67.out v7.ownBlock HB67.out.size hg8 (fun k e => by obtain ⟨b, hb, hle⟩ := HO7.out; rw [hb] at e; have e2 : b = k := Option.some.inj e; omega)); have HNW := Aside0.mk (show ∀ k, k < (set6 w5 g3 (.slice B0 bl.length d0) (.slice B1 ws.length d1) (.slice B2 bad.length d2) (.bool dn) (.bool cut) (.int .i64 lf)).heap.size → some k ≠ v8.ownBlock from fun k hk e => by obtain ⟨b, hb, hle⟩ := HO7.out; rcases hat8 with h | ⟨b2, h, h2⟩; (rw [h, hb] at e; have e2 : k = b := Option.some.inj e; omega); (rw [h] at e; have e2 : k = b2 := Option.some.inj e; have := HB67.out.size; omega)); clear hx31 hn8 hb8 hg8 hat8)
            | ((with_reducible refine gate_dst (N := 51) rfl ?_); refine Kd.R_lit (Kd.int .u8) (w0 := w8) w8.heap.size 5 rfl (N := 51) rfl (xs := ([] : List Int)) (inner := []) (ok := fun _ => True) (okp := fun _ => True) ?hr (Reps.none _ _) (fun _ hk => hk) trivial (Below.refl _ _) (Nat.le_refl _) (by simp) ?_; (case hr => first | (go_simp; done) | (go_simp; rfl)); intro v9 w9 hr9 hb9 _ _; have HR9 := Aside0.mk hr9; have HB9 := Aside0.mk hb9; clear hr9 hb9)
            | ((with_reducible refine gate_builtin (b := .append) (xs := #[.tmp 51, .tmp 52]) rfl ?_); at_builtin; refine Kd.R_append_rows (Kd.int .u8) (w0 := w8) w8.heap.size rfl (.tmp 51) (.tmp 52) 22 5 (.int .u8 0) 1 rfl Try.underlying22 info5 rfl (by decide) (by omega) v9 [] b Ab b.length cb (fun _ => True) (fun _ => False) rfl rfl HR9.out (Kd.C_below HC.out (below_step HB8.out HB9.out)) (fun _ _ h => h) (fun _ h => h.elim) (fun _ _ => trivial) HB9.out HB9.out.size (by have := HBL.out; simp; omega) ?_; intro v10 w10 hr10 hb10 _ _; rw [List.nil_append] at hr10; obtain ⟨A10, c10, e10⟩ := Kd.R_slice hr10; subst e10; have HF10 := Aside0.mk (show Kd.F (Kd.int .u8) w10 (fun k => w8.heap.size ≤ k) A10 b.length b from Kd.F_mono (Kd.R_F (Kd.R_bound hr10)) (fun k hk => hk.2.1)); have HL10 := Aside0.mk (Kd.R_reads' hr10).2.1; have HB10 := Aside0.mk hb10; clear hr10 hb10)
            | ((with_reducible refine gate_builtin (b := .append) (xs := #[.tmp 49, .tmp 55]) rfl ?_); at_builtin; refine Kd.N_append k183 (w0 := w) w.heap.size rfl (.tmp 49) (.tmp 55) 100 183 (.agg #[.int .i64 0, .slice none 0 0]) 32 rfl Try.underlying100 info183 rfl (by decide) (by omega) v8 ws ⟨n, b⟩ [.int .i64 n, .slice A10 b.length c10] (Off P w.heap.size w2.heap.size) (fun k => w8.heap.size ≤ k) rfl rfl (k183_mkF _ _ ⟨n, b⟩ HL10.out HF10.out) (fun k hk => ⟨.inr (Nat.le_trans HN6.out (Nat.le_trans HB68.out.size hk)), fun e => Nat.lt_irrefl k (Nat.lt_of_lt_of_le (Kd.N_lt HN8.out k e.symm) hk)⟩) (fun k hk => .inr (Nat.le_trans HN6.out (Nat.le_trans HB68.out.size (Nat.le_trans HB10.out.size hk)))) (Kd.N_below HN8.out HB10.out) (below_step HB8.out HB10.out) (below_step HB8.out HB10.out).size (by have := HWSL.out; omega) ?_; intro v11 w11 hn11 hb11 hg11 hat11; obtain ⟨A11, c11, e11⟩ := Kd.N_slice hn11; rw [List.length_append, List.length_singleton] at e11; subst e11; have HN11 := Aside0.mk hn11; have HB11 := Aside0.mk hb11; have HK311 := Aside0.mk (blk_grown (blk_below (blk_below HK36.out HB68.out) HB10.out) hg11 (fun e => (HN8.out.1 g3 e.symm).ne HGS.out.1 (by have := HGS.out; omega) rfl)); have HK611 := Aside0.mk (blk_grown (blk_below (blk_below HK66.out HB68.out) HB10.out) hg11 (fun e => (HN8.out.1 g6 e.symm).ne HGS.out.2.1 HGS.out.2.2.2 rfl)); have HS11 := Aside0.mk ((HS6.out.bound.below (below_step HB68.out HB10.out)).step (fun k hk _ => hg11.block k (Nat.lt_of_lt_of_le hk.2 (Nat.le_trans HB68.out.size HB10.out.size)) (fun e => HNW.out k hk.2 e))); have hc0 : w11.cell? ⟨g3, 0, none⟩ = some (.slice B0 bl.length d0) := (blk_cell HK311.out 0).trans rfl; have hcf0 : w11.frozen? ⟨g3, 0, none⟩ = false := blk_frozen HK311.out 0; have hc1 : w11.cell? ⟨g3, 1, none⟩ = some (.slice B1 ws.length d1) := (blk_cell HK311.out 1).trans rfl; have hcf1 : w11.frozen? ⟨g3, 1, none⟩ = false := blk_frozen HK311.out 1; have hc2 : w11.cell? ⟨g3, 2, none⟩ = some (.slice B2 bad.length d2) := (blk_cell HK311.out 2).trans rfl; have hcf2 : w11.frozen? ⟨g3, 2, none⟩ = false := blk_frozen HK311.out 2; have hc3 : w11.cell? ⟨g3, 3, none⟩ = some (.bool dn) := (blk_cell HK311.out 3).trans rfl; have hcf3 : w11.frozen? ⟨g3, 3, none⟩ = false := blk_frozen HK311.out 3; have hc4 : w11.cell? ⟨g3, 4, none⟩ = some (.bool cut) := (blk_cell HK311.out 4).trans rfl; have hcf4 : w11.frozen? ⟨g3, 4, none⟩ = false := blk_frozen HK311.out 4; have hc5 : w11.cell? ⟨g3, 5, none⟩ = some (.int .i64 lf) := (blk_cell HK311.out 5).trans rfl; have hcf5 : w11.frozen? ⟨g3, 5, none⟩ = false := blk_frozen HK311.out 5; have hz0 : w11.cell? ⟨g6, 0, none⟩ = some (.slice none 0 0) := (blk_cell HK611.out 0).trans rfl; have hzf0 : w11.frozen? ⟨g6, 0, none⟩ = false := blk_frozen HK611.out 0; have hz1 : w11.cell? ⟨g6, 1, none⟩ = some (.slice none 0 0) := (blk_cell HK611.out 1).trans rfl; have hzf1 : w11.frozen? ⟨g6, 1, none⟩ = false := blk_frozen HK611.out 1; have hz2 : w11.cell? ⟨g6, 2, none⟩ = some (.slice none 0 0) := (blk_cell HK611.out 2).trans rfl; have hzf2 : w11.frozen? ⟨g6, 2, none⟩ = false := blk_frozen HK611.out 2; have hz3 : w11.cell? ⟨g6, 3, none⟩ = some (.bool false) := (blk_cell HK611.out 3).trans rfl; have hzf3 : w11.frozen? ⟨g6, 3, none⟩ = false := blk_frozen HK611.out 3; have hz4 : w11.cell? ⟨g6, 4, none⟩ = some (.bool false) := (blk_cell HK611.out 4).trans rfl; have hzf4 : w11.frozen? ⟨g6, 4, none⟩ = false := blk_frozen HK611.out 4; have hz5 : w11.cell? ⟨g6, 5, none⟩ = some (.int .i64 0) := (blk_cell HK611.out 5).trans rfl; have hzf5 : w11.frozen? ⟨g6, 5, none⟩ = false := blk_frozen HK611.out 5; clear hn11 hb11 hg11 hat11))
          go_wp2
          refine bodyPost_ret (results_ct rfl _ _ g6 102 (stC (.slice B0 bl.length d0) (.slice A11 (ws.length + 1) c11) (.slice B2 bad.length d2) dn cut (lf)) (0, 0) _ rfl (set6_blk (blk_far HK611.out (p := ⟨g3, 1, none⟩) HNE.out _) rfl _ _ _ _ _ _) Try.underlying102 rfl (by kernel_rfl)) rfl ?_
          have hres := HRES.out
          first | rw [if_pos HMEM.out] at hres | rw [if_neg HNM.out] at hres
          simp only [if_true, Bool.false_eq_true, if_false, Prod.mk.injEq] at hres
          obtain ⟨rfl, rfl, rfl, rfl⟩ := hres
          have hgs := HGS.out
          have HSF := Aside0.mk (show RSt (Off P w.heap.size w2.heap.size) (.slice B0 bl.length d0) (.slice A11 (ws.length + 1) c11) (.slice B2 bad.length d2) bl (ws ++ [⟨n, b⟩]) bad w11 from ⟨Kd.V_mono HS11.out.b (fun k hk => hk.1), by have h := Kd.N_V (base' := 0) HN11.out; exact h, Kd.V_mono HS11.out.d (fun k hk => hk.1)⟩)
          refine ⟨_, rfl, _, _, _, rfl, (HSF.out).fin (by omega) (fun k hk => (set6_far (hk.ne hgs.2.1 hgs.2.2.2) _ _ _ _ _ _).trans (Below.heap_setCell _ ⟨g3, 1, none⟩ _ _ (hk.ne hgs.1 (Nat.lt_trans hgs.2.2.1 hgs.2.2.2)))), set6_below (HB11.out.setCell (p := ⟨g3, 1, none⟩) hgs.1 _) hgs.2.1 _ _ _ _ _ _⟩

end Go.Proofs.Ytdbfclfglpbpmaa.Dsk
