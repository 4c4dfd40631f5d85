/- A disk: the power goes, and comes. No condition. -/
import Derived.Test.YtdbfclfglpbpmaaDskF
namespace Go.Proofs.Ytdbfclfglpbpmaa.Dsk
open Go.AnyFacts Go.Proofs.Ytdbfclfglpbpmaa.Sha Go.RowKit Go.Proofs.YtdbfclfglpbpmaaW.Hand Go.Proofs.YtdbfclfglpbpmaaW.PrintWords Go.Proofs.YtdbfclfglpbpmaaW.PrintLast Go.Proofs.YtdbfclfglpbpmaaW.PrintMore Go.Proofs.Ytdbfclfglpbpmaa.PF21 Go.Proofs.Ytdbfclfglpbpmaa.Base Go.Proofs.Ytdbfclfglpbpmaa.LF21
attribute [local go_sem] max2_int min2_int max_two min_two max_three min_three max_four min_four
set_option linter.unusedVariables false
set_option linter.unusedSimpArgs false

theorem C_takeN {α : Type} {d : Kd α} {w : World} {A : Option Addr} {n : Nat} {xs : List α} (h : d.C w A n xs) {j : Nat} (hj : j ≤ n) : d.C w A j (xs.take j) := by
  refine ⟨by rw [List.length_take, h.1]; omega, by have := h.2.1; omega, fun hp => ?_⟩
  obtain ⟨ad, e, hc⟩ := h.2.2 (by omega)
  refine ⟨ad, e, fun i p hi => hc i p ?_⟩
  rw [List.getElem?_take] at hi
  split at hi
  · exact hi
  · cases hi
def Ds49_4.T : Bool × List (List Nat × List Nat) := (true, [([], []), ([0], [0]), ([1], [1]), ([2], [2]), ([], []), ([4], [4]), ([3, 5], [3, 5]), ([6], [6]), ([], []), ([8], [8]), ([], []), ([], []), ([10, 11], [10, 11]), ([12], [12]), ([13], [13]), ([14], [14]), ([9, 15], [9, 15]), ([7, 16], [7, 16])])
def Ds49_4.B : List Nat := [0, 1, 3, 7, 0, 16, 63, 127, 0, 256, 0, 0, 3072, 7168, 15360, 31744, 65280, 131071]
theorem Ds49_4.tab : rtab .any (opsOf Try.f49 4) = Ds49_4.T := by kernel_rfl
theorem Ds49_4.bits : waitsOk Ds49_4.T.2 Ds49_4.B = true := by kernel_rfl
set_option maxHeartbeats 8000000 in
set_option maxRecDepth 100000 in
theorem DSt.Crash {B M0 g : Nat} {bv dv wv : Value} {bl : List (List Int)} {wt : List S154} {bad : List Int} {down : Bool} {left : Int} {w : World} (s : DSt B M0 g bv dv wv bl wt bad down left w) (Ap : Option Addr) (cp : Nat) (ps : List Int) (hP : Kd.F (Kd.int .i64) w (fun k => ¬ Mut B M0 g dv wv k) Ap ps.length ps) (hpc : ps.length ≤ cp) (hwf : WFd bl wt) (hwt : wt.length ≤ 1000) : Calls Try.prog 49 #[.pointer (some ⟨g, 0, none⟩), .slice Ap ps.length cp] w fun e w' => e = .returned (.tuple #[]) ∧ DSt B M0 g bv dv (.slice none 0 0) (crashB wt ps bl) [] bad false (-1) w' ∧ Stp B M0 g dv wv w w' := by
  obtain ⟨Aw, cw, ew⟩ := Kd.R_slice s.waits
  have HWT := Aside0.mk hwt
  have HWF := Aside0.mk hwf
  have HP := Aside0.mk hP
  have hx1 := s.cell1
  have HS := Aside0.mk s
  clear s hwf hwt hP hpc
  subst ew
  go_enter Try.func49, Try.ntmps49
  go_wp2
  clear hx1
  go_loopg [11] (wt.length + 1) (fun kq v11 wr => ∃ (z : Int) (i : Nat) (cur : List (List Int)), v11 = .int .i64 z ∧ Aside0 (z = (i : Int) ∧ i + kq = wt.length + 1 ∧ i ≤ wt.length) ∧ Aside0 (WFd cur wt ∧ crashB (wt.drop i) (ps.drop i) cur = crashB wt ps bl) ∧ Aside0 (DSt B M0 g bv dv (.slice Aw wt.length cw) cur wt bad down left wr ∧ Stp B M0 g dv (.slice Aw wt.length cw) w wr))
  case atStart => exact ⟨0, 0, bl, rfl, ⟨rfl, by omega, by omega⟩, ⟨HWF.out, by rw [List.drop_zero, List.drop_zero]⟩, ⟨HS.out, Stp.refl _ _ _ _ _ _⟩⟩
  case round =>
    obtain ⟨z, i, cur, rfl, HK, HW, HR⟩ := hrel
    obtain ⟨hz, hk, hil⟩ := HK.out
    have HSR := Aside0.mk HR.out.1
    have HPR := Aside0.mk HR.out.2
    clear HR
    cases gk with
    | zero => omega
    | succ k1 =>
      by_cases hi : i < wt.length
      · have hib : decide (z < (wt.length : Int)) = true := decide_eq_true (by omega)
        obtain ⟨b, hb⟩ : ∃ b, wt[i].f1 = b := ⟨_, rfl⟩
        obtain ⟨f, hf⟩ : ∃ f, wt[i].f0 = f := ⟨_, rfl⟩
        obtain ⟨f0, f1, h256⟩ := HW.out.1.2 wt[i] (List.getElem_mem hi)
        rw [hf] at f0 f1
        rw [hb] at h256
        obtain ⟨ad, cap, Ax, cx, ew, hX, hcx, hCx⟩ := HSR.out.wats i hi f b hf hb h256
        injection ew with e3 _ e4
        subst e3 e4
        have hiz : i = z.toNat := by omega
        have hwr : wrap64 (z + 1) = ((i + 1 : Nat) : Int) := by have := HWT.out; rw [w64 (by omega) (by omega)]; omega
        have HWR := Aside0.mk hwr
        rw [hiz] at hX
        have HX := Aside0.mk hX
        have HI := Aside0.mk hi
        have p1 := eq_true (show (0 : Int) ≤ z by omega)
        have q1 := eq_true (show z < (wt.length : Int) by omega)
        have HBR := Aside0.mk (show B ≤ wr.heap.size by have := HSR.out.gB; omega)
        by_cases hip : i < ps.length
        · have hpb : decide (z < (ps.length : Int)) = true := decide_eq_true (by omega)
          have q3 := eq_true (show z < (ps.length : Int) by omega)
          obtain ⟨p, hp⟩ : ∃ p, ps[i] = p := ⟨_, rfl⟩
          obtain ⟨r, hr⟩ : ∃ r, r = pick p := ⟨_, rfl⟩
          have hr0 := pick_range p
          rw [← hr] at hr0
          have hmx : (if p < 0 then (0 : Int) else p) = mx p 0 := rfl
          have hmn : (if 256 < mx p 0 then (256 : Int) else mx p 0) = r := by rw [hr]; rfl
          have HCX := Aside0.mk (Kd.C_below (w1 := wr) (C_takeN hCx (j := r.toNat) (by omega)) (Below.refl _ _))
          obtain ⟨i0, hi0, hs0⟩ := info5p
          have hcut := fun kh_ => cut_to (P := Try.prog) 22 5 kh_ Try.underlying22 hi0 (some Ax) 256 cx r hr0.1 (by omega) hcx
          have HRN := Aside0.mk (show r.toNat ≤ 256 by omega)
          have HLAY := Aside0.mk (show crashB (wt.drop i) (ps.drop i) cur = crashB (wt.drop (i + 1)) (ps.drop (i + 1)) (cur.set f.toNat (b.take r.toNat ++ (cur.getD f.toNat []).drop r.toNat)) by
            rw [drop_step hi, drop_step hip, crashB, hp, ← hr]
            congr 1
            unfold layOne
            rw [hf, hb])
          have HWF2 := Aside0.mk (show WFd (cur.set f.toNat (b.take r.toNat ++ (cur.getD f.toNat []).drop r.toNat)) wt by
            have := layOne_wf HW.out.1 (List.getElem_mem hi) HRN.out
            unfold layOne at this
            rw [hf, hb] at this
            exact this)
          obtain ⟨adp, eap, hpc⟩ := Kd.at_int (Kd.F_now (Kd.F_kept HP.out HPR.out.kept (fun _ h => h))) z (by omega) (by omega)
          have hrd : rd ps z = p := by rw [show z = (i : Int) by omega, rd_lt hip, hp]
          rw [hrd] at hpc
          subst eap
          have HPC := Aside0.mk hpc
          have HFR := Aside0.mk (show f.toNat < cur.length by omega)
          have p2 := eq_true f0
          have q2 := eq_true f1
          clear hX hCx hcx hz hk hil hi hb hf hiz hwr f0 f1 h256 hip hp hr hr0 hpc hrd hi0 hs0
          go_wp2_with (first
            | ((with_reducible refine gate_dst (N := 15) rfl ?_); refine L_loadlist rfl 154 (.tmp 14) rfl (ad.add (z.toNat * 2)) rfl [.int .i64 f, .slice (some Ax) 256 cx] _ HX.out Try.underlying154 rfl (by kernel_rfl) ?_)
            | ((with_reducible refine gate_dst (N := 5) rfl ?_); refine L_alloc rfl 154 rfl (.agg #[.int .i64 0, .slice none 0 0]) 2 (by kernel_rfl) ?_; intro gx wx hbx hgx hsx hlx; have HBX := Aside0.mk hbx; have HGX := Aside0.mk hgx; have HLX := Aside0.mk hlx; have hxc0 : wx.cell? ⟨gx, 0, none⟩ = some (.int .i64 0) := (blk_cell hbx 0).trans rfl; have hxc1 : wx.cell? ⟨gx, 1, none⟩ = some (.slice none 0 0) := (blk_cell hbx 1).trans rfl; have hxf0 : wx.frozen? ⟨gx, 0, none⟩ = false := blk_frozen hbx 0; have hxf1 : wx.frozen? ⟨gx, 1, none⟩ = false := blk_frozen hbx 1; clear hbx hgx hsx hlx))
          obtain ⟨wy, hwy⟩ : ∃ wy, wy = (wx.setCell ⟨gx, 0, none⟩ (.int .i64 f)).setCell ⟨gx, 1, none⟩ (.slice (some Ax) 256 cx) := ⟨_, rfl⟩
          rw [← hwy]
          have HBY := Aside0.mk (show wy.heap[gx]? = some (.cells #[.int .i64 f, .slice (some Ax) 256 cx] 154 (0, 0)) from by rw [hwy]; exact (blk_set ((blk_set HBX.out 0 _).trans rfl) 1 _).trans rfl)
          have HLY := Aside0.mk (show Below wr.heap.size wr wy from by rw [hwy]; exact (HLX.out.setCell (p := ⟨gx, 0, none⟩) (Nat.le_of_eq HGX.out) _).setCell (p := ⟨gx, 1, none⟩) (Nat.le_of_eq HGX.out) _)
          clear hwy hxc0 hxc1 hxf0 hxf1
          have HSY := Aside0.mk ((HSR.out.below HLY.out).drew)
          have HPY := Aside0.mk ((HPR.out.then_ HBR.out HLY.out).then_ (Nat.le_trans HBR.out HLY.out.size) (below_drew (Below.refl _ _)))
          obtain ⟨adb, capb, Ai, ci, w2, eb, hcell, hcp, hs2, hp2⟩ := HSY.out.copy f.toNat HFR.out (HW.out.1.1 _ (List.getElem_mem _)) (sc := cx) (Kd.C_drew (Kd.C_below HCX.out HLY.out)) HRN.out ⟨_, rfl⟩
          have hg0 := HSY.out.cell0
          rw [eb] at hg0
          have HG := Aside0.mk (show wy.drew.cell? ⟨g, 0, none⟩ = some (.slice (some adb) cur.length capb) ∧ wy.drew.cell? ⟨gx, 0, none⟩ = some (.int .i64 f) ∧ wy.drew.cell? ⟨gx, 1, none⟩ = some (.slice (some Ax) 256 cx) ∧ wy.drew.cell? (adb.add f.toNat) = some (.slice Ai 256 ci) ∧ wy.drew.cell? (adp.add z.toNat) = some (.int .i64 p) from ⟨hg0, (blk_cell HBY.out 0).trans rfl, (blk_cell HBY.out 1).trans rfl, hcell, cell_below (below_drew HLY.out) HPC.out⟩)
          have HCP := Aside0.mk hcp
          have HS2 := Aside0.mk hs2
          have HP2 := Aside0.mk (HPY.out.join hp2 (fun _ h => .inl h))
          clear eb hcell hcp hs2 hp2 hg0 HSY HPY HX HBX HLX HGX HPC
          refine start_ (n := 18) (S := fun w' => w'.cell? ⟨g, 0, none⟩ = some (.slice (some adb) cur.length capb) ∧ w'.cell? ⟨gx, 0, none⟩ = some (.int .i64 f) ∧ w'.cell? ⟨gx, 1, none⟩ = some (.slice (some Ax) 256 cx) ∧ w'.cell? (adb.add f.toNat) = some (.slice Ai 256 ci) ∧ w'.cell? (adp.add z.toNat) = some (.int .i64 p)) (ds := [17]) #[false, false, false, false, false, false, false, false, false, false, false, false, false, false, false, false, false, false] (by kernel_rfl) rfl rfl ⟨HG.out.1, HG.out.2.1, HG.out.2.2.1, HG.out.2.2.2.1, HG.out.2.2.2.2⟩ (fun hHeld => ?_); refine with_tabW Ds49_4.tab Ds49_4.bits (fun HT_ HW_ => ?_)
          refine pure_ (i := 0) (N := some 20) (v := ?_) (a' := ?_) #[true, false, false, false, false, false, false, false, false, false, false, false, false, false, false, false, false, false] rfl rfl (any_of HT_.out (by kernel_rfl)) (fun _ _ _ h => h) (Or.inl ⟨by rfl, ?_⟩) ?_ ?_
          rotate_left
          · intro w'
            go_simp
            with_reducible rfl
          rotate_left
          · simp only [Act.put, List.setIfInBounds_toArray, List.set_cons_zero, List.set_cons_succ, i64_w, i32_w]
            rfl
          refine pure_ (i := 1) (N := some 21) (v := ?_) (a' := ?_) #[true, true, false, false, false, false, false, false, false, false, false, false, false, false, false, false, false, false] rfl rfl (any_of HT_.out (by kernel_rfl)) (fun _ _ _ h => h) (Or.inl ⟨by rfl, ?_⟩) ?_ ?_
          rotate_left
          · intro w'
            go_simp
            with_reducible rfl
          rotate_left
          · simp only [Act.put, List.setIfInBounds_toArray, List.set_cons_zero, List.set_cons_succ, i64_w, i32_w]
            rfl
          refine pure_ (i := 2) (N := some 22) (v := ?_) (a' := ?_) #[true, true, true, false, false, false, false, false, false, false, false, false, false, false, false, false, false, false] rfl rfl (any_of HT_.out (by kernel_rfl)) (fun _ _ _ h => h) (Or.inl ⟨by rfl, ?_⟩) ?_ ?_
          rotate_left
          · intro w'
            go_simp
            with_reducible rfl
          rotate_left
          · simp only [Act.put, List.setIfInBounds_toArray, List.set_cons_zero, List.set_cons_succ, i64_w, i32_w]
            rfl
          refine take_ (i := 3) (N := some 23) (v := ?_) (a' := ?_) #[true, true, true, true, false, false, false, false, false, false, false, false, false, false, false, false, false, false] rfl rfl (take_ofW HT_.out HW_.out (by kernel_rfl)) (fun _ _ _ h => h) (Or.inl ⟨by rfl, ?_⟩) hHeld ?_ ?_
          rotate_left
          · rintro w' ⟨s0, s1, s2, s3, s4⟩
            go_simp
            with_reducible rfl
          rotate_left
          · simp only [Act.put, List.setIfInBounds_toArray, List.set_cons_zero, List.set_cons_succ, i64_w, i32_w]
            rfl
          refine pure_ (i := 4) (N := some 24) (v := ?_) (a' := ?_) #[true, true, true, true, true, false, false, false, false, false, false, false, false, false, false, false, false, false] rfl rfl (any_of HT_.out (by kernel_rfl)) (fun _ _ _ h => h) (Or.inl ⟨by rfl, ?_⟩) ?_ ?_
          rotate_left
          · intro w'
            go_simp
            with_reducible rfl
          rotate_left
          · simp only [Act.put, List.setIfInBounds_toArray, List.set_cons_zero, List.set_cons_succ, i64_w, i32_w]
            rfl
          refine take_ (i := 5) (N := some 25) (v := ?_) (a' := ?_) #[true, true, true, true, true, true, false, false, false, false, false, false, false, false, false, false, false, false] rfl rfl (take_ofW HT_.out HW_.out (by kernel_rfl)) (fun _ _ _ h => h) (Or.inl ⟨by rfl, ?_⟩) hHeld ?_ ?_
          rotate_left
          · rintro w' ⟨s0, s1, s2, s3, s4⟩
            go_simp
            with_reducible rfl
          rotate_left
          · simp only [Act.put, List.setIfInBounds_toArray, List.set_cons_zero, List.set_cons_succ, i64_w, i32_w]
            rfl
          refine pure_ (i := 6) (N := some 26) (v := ?_) (a' := ?_) #[true, true, true, true, true, true, true, false, false, false, false, false, false, false, false, false, false, false] rfl rfl (any_of HT_.out (by kernel_rfl)) (fun _ _ _ h => h) (Or.inl ⟨by rfl, ?_⟩) ?_ ?_
          rotate_left
          · intro w'
            go_simp
            with_reducible rfl
          rotate_left
          · simp only [Act.put, List.setIfInBounds_toArray, List.set_cons_zero, List.set_cons_succ, i64_w, i32_w]
            rfl
          refine take_ (i := 7) (N := some 27) (v := ?_) (a' := ?_) #[true, true, true, true, true, true, true, true, false, false, false, false, false, false, false, false, false, false] rfl rfl (take_ofW HT_.out HW_.out (by kernel_rfl)) (fun _ _ _ h => h) (Or.inl ⟨by rfl, ?_⟩) hHeld ?_ ?_
          rotate_left
          · rintro w' ⟨s0, s1, s2, s3, s4⟩
            go_simp
            with_reducible rfl
          rotate_left
          · simp only [Act.put, List.setIfInBounds_toArray, List.set_cons_zero, List.set_cons_succ, i64_w, i32_w]
            rfl
          refine pure_ (i := 8) (N := some 28) (v := ?_) (a' := ?_) #[true, true, true, true, true, true, true, true, true, false, false, false, false, false, false, false, false, false] rfl rfl (any_of HT_.out (by kernel_rfl)) (fun _ _ _ h => h) (Or.inl ⟨by rfl, ?_⟩) ?_ ?_
          rotate_left
          · intro w'
            go_simp
            with_reducible rfl
          rotate_left
          · simp only [Act.put, List.setIfInBounds_toArray, List.set_cons_zero, List.set_cons_succ, i64_w, i32_w]
            rfl
          refine take_ (i := 9) (N := some 29) (v := ?_) (a' := ?_) #[true, true, true, true, true, true, true, true, true, true, false, false, false, false, false, false, false, false] rfl rfl (take_ofW HT_.out HW_.out (by kernel_rfl)) (fun _ _ _ h => h) (Or.inl ⟨by rfl, ?_⟩) hHeld ?_ ?_
          rotate_left
          · rintro w' ⟨s0, s1, s2, s3, s4⟩
            go_simp
            with_reducible rfl
          rotate_left
          · simp only [Act.put, List.setIfInBounds_toArray, List.set_cons_zero, List.set_cons_succ, i64_w, i32_w]
            rfl
          refine pure_ (i := 10) (N := some 30) (v := ?_) (a' := ?_) #[true, true, true, true, true, true, true, true, true, true, true, false, false, false, false, false, false, false] rfl rfl (any_of HT_.out (by kernel_rfl)) (fun _ _ _ h => h) (Or.inl ⟨by rfl, ?_⟩) ?_ ?_
          rotate_left
          · intro w'
            go_simp
            with_reducible rfl
          rotate_left
          · simp only [Act.put, List.setIfInBounds_toArray, List.set_cons_zero, List.set_cons_succ, i64_w, i32_w]
            rfl
          refine pure_ (i := 11) (N := some 31) (v := ?_) (a' := ?_) #[true, true, true, true, true, true, true, true, true, true, true, true, false, false, false, false, false, false] rfl rfl (any_of HT_.out (by kernel_rfl)) (fun _ _ _ h => h) (Or.inl ⟨by rfl, ?_⟩) ?_ ?_
          rotate_left
          · intro w'
            go_simp
            with_reducible rfl
          rotate_left
          · simp only [Act.put, List.setIfInBounds_toArray, List.set_cons_zero, List.set_cons_succ, i64_w, i32_w]
            rfl
          refine pure_ (i := 12) (N := some 32) (v := ?_) (a' := ?_) #[true, true, true, true, true, true, true, true, true, true, true, true, true, false, false, false, false, false] rfl rfl (any_of HT_.out (by kernel_rfl)) (fun _ _ _ h => h) (Or.inl ⟨by rfl, ?_⟩) ?_ ?_
          rotate_left
          · intro w'
            go_simp
            with_reducible rfl
          rotate_left
          · simp only [Act.put, List.setIfInBounds_toArray, List.set_cons_zero, List.set_cons_succ, i64_w, i32_w]
            rfl
          refine take_ (i := 13) (N := some 33) (v := ?_) (a' := ?_) #[true, true, true, true, true, true, true, true, true, true, true, true, true, true, false, false, false, false] rfl rfl (take_ofW HT_.out HW_.out (by kernel_rfl)) (fun _ _ _ h => h) (Or.inl ⟨by rfl, ?_⟩) hHeld ?_ ?_
          rotate_left
          · rintro w' ⟨s0, s1, s2, s3, s4⟩
            go_simp
            with_reducible rfl
          rotate_left
          · simp only [Act.put, List.setIfInBounds_toArray, List.set_cons_zero, List.set_cons_succ, i64_w, i32_w]
            rfl
          refine pure_ (i := 14) (N := some 34) (v := ?_) (a' := ?_) #[true, true, true, true, true, true, true, true, true, true, true, true, true, true, true, false, false, false] rfl rfl (any_of HT_.out (by kernel_rfl)) (fun _ _ _ h => h) (Or.inl ⟨by rfl, ?_⟩) ?_ ?_
          rotate_left
          · intro w'
            go_simp
            with_reducible rfl
          rotate_left
          · simp only [Act.put, List.setIfInBounds_toArray, List.set_cons_zero, List.set_cons_succ, i64_w, i32_w]
            rfl
          refine pure_ (i := 15) (N := some 35) (v := ?_) (a' := ?_) #[true, true, true, true, true, true, true, true, true, true, true, true, true, true, true, true, false, false] rfl rfl (any_of HT_.out (by kernel_rfl)) (fun _ _ _ h => h) (Or.inl ⟨by rfl, ?_⟩) ?_ ?_
          rotate_left
          · intro w'
            go_simp
            with_reducible rfl
          rotate_left
          · simp only [Act.put, List.setIfInBounds_toArray, List.set_cons_zero, List.set_cons_succ, i64_w, i32_w]
            rfl
          refine pure_ (i := 16) (N := some 36) (v := ?_) (a' := ?_) #[true, true, true, true, true, true, true, true, true, true, true, true, true, true, true, true, true, false] rfl rfl (any_of HT_.out (by kernel_rfl)) (fun _ _ _ h => h) (Or.inl ⟨by rfl, ?_⟩) ?_ ?_
          rotate_left
          · intro w'
            go_simp
            with_reducible rfl
          rotate_left
          · simp only [Act.put, List.setIfInBounds_toArray, List.set_cons_zero, List.set_cons_succ, i64_w, i32_w]
            rfl
          refine last_ (i := 17) (N := some 37) #[true, true, true, true, true, true, true, true, true, true, true, true, true, true, true, true, true, true] rfl rfl (one_of HT_.out (by kernel_rfl)) (by decide) (fun Kq hKq => ?_)
          refine step_copy_known rfl _ _ 22 22 rfl _ _ (by rfl) (by rfl) (HCP.out _) ?_
          refine hKq.out _ _ ?_
          clear hKq Kq
          refine norm_ (a' := ?_) ?_ ?_
          rotate_left
          · show Act.put _ (some 37) _ = _
            simp only [Act.put, List.setIfInBounds_toArray, List.set_cons_zero, List.set_cons_succ, i64_w, i32_w]
            rfl
          refine done_ (done_of HT_.out (by kernel_rfl)) ?_
          go_wp2
          go_roundg k1
          case measure => have := HK.out.2.1; omega
          case rel => exact ⟨wrap64 (z + 1), i + 1, _, rfl, ⟨HWR.out, by have := HK.out.2.1; omega, by have := HI.out; omega⟩, ⟨HWF2.out, by rw [← HLAY.out]; exact HW.out.2⟩, ⟨by have h := HS2.out; rw [← rdl ([] : List Int) HFR.out] at h; exact h, HP2.out⟩⟩
        · have hpb : decide (z < (ps.length : Int)) = false := decide_eq_false (by omega)
          have HLAY := Aside0.mk (show crashB (wt.drop i) (ps.drop i) cur = crashB (wt.drop (i + 1)) (ps.drop (i + 1)) cur by
            rw [List.drop_of_length_le (show ps.length ≤ i by omega), List.drop_of_length_le (show ps.length ≤ i + 1 by omega), drop_step hi]
            cases wt.drop (i + 1) <;> rfl)
          clear hX hCx hcx hz hk hil hi hb hf hiz hwr f0 f1 h256 hip
          go_wp2_with (first
            | ((with_reducible refine gate_dst (N := 15) rfl ?_); refine L_loadlist rfl 154 (.tmp 14) rfl (ad.add (z.toNat * 2)) rfl [.int .i64 f, .slice (some Ax) 256 cx] _ HX.out Try.underlying154 rfl (by kernel_rfl) ?_)
            | ((with_reducible refine gate_dst (N := 5) rfl ?_); refine L_alloc rfl 154 rfl (.agg #[.int .i64 0, .slice none 0 0]) 2 (by kernel_rfl) ?_; intro gx wx hbx hgx hsx hlx; have HBX := Aside0.mk hbx; have HGX := Aside0.mk hgx; have HLX := Aside0.mk hlx; have hxc0 : wx.cell? ⟨gx, 0, none⟩ = some (.int .i64 0) := (blk_cell hbx 0).trans rfl; have hxc1 : wx.cell? ⟨gx, 1, none⟩ = some (.slice none 0 0) := (blk_cell hbx 1).trans rfl; have hxf0 : wx.frozen? ⟨gx, 0, none⟩ = false := blk_frozen hbx 0; have hxf1 : wx.frozen? ⟨gx, 1, none⟩ = false := blk_frozen hbx 1; clear hbx hgx hsx hlx))
          obtain ⟨wy, hwy⟩ : ∃ wy, wy = (wx.setCell ⟨gx, 0, none⟩ (.int .i64 f)).setCell ⟨gx, 1, none⟩ (.slice (some Ax) 256 cx) := ⟨_, rfl⟩
          rw [← hwy]
          have HBY := Aside0.mk (show wy.heap[gx]? = some (.cells #[.int .i64 f, .slice (some Ax) 256 cx] 154 (0, 0)) from by rw [hwy]; exact (blk_set ((blk_set HBX.out 0 _).trans rfl) 1 _).trans rfl)
          have HLY := Aside0.mk (show Below wr.heap.size wr wy from by rw [hwy]; exact (HLX.out.setCell (p := ⟨gx, 0, none⟩) (Nat.le_of_eq HGX.out) _).setCell (p := ⟨gx, 1, none⟩) (Nat.le_of_eq HGX.out) _)
          clear hwy hxc0 hxc1 hxf0 hxf1
          have HSY := Aside0.mk (HSR.out.below HLY.out)
          have HPY := Aside0.mk (HPR.out.then_ HBR.out HLY.out)
          go_roundg k1
          case measure => have := HK.out.2.1; omega
          case rel => exact ⟨wrap64 (z + 1), i + 1, _, rfl, ⟨HWR.out, by have := HK.out.2.1; omega, by have := HI.out; omega⟩, ⟨HW.out.1, by rw [← HLAY.out]; exact HW.out.2⟩, ⟨HSY.out, HPY.out⟩⟩
      · have hib : decide (z < (wt.length : Int)) = false := decide_eq_false (by omega)
        have hie : i = wt.length := by omega
        have hfin := HW.out.2
        rw [hie, List.drop_length] at hfin
        have HFIN := Aside0.mk (show cur = crashB wt ps bl from by rw [← hfin]; cases ps.drop wt.length <;> rfl)
        have hx1 := HSR.out.cell1
        have hx3 := HSR.out.cell3
        have hx4 := HSR.out.cell4
        have hf1 : wr.frozen? ⟨g, 1, none⟩ = false := blk_frozen HSR.out.blk 1
        have hf3 : wr.frozen? ⟨g, 3, none⟩ = false := blk_frozen HSR.out.blk 3
        have hf4 : wr.frozen? ⟨g, 4, none⟩ = false := blk_frozen HSR.out.blk 4
        clear hz hk hil hi hie hfin
        go_wp2
        first | ((try simp only [Exit.inBlock, Exit.then]); refine bodyPost_ret (results_none rfl _ _ _) rfl ?_) | go_end0
        refine ⟨rfl, ?_, ((HPR.out.setg HSR.out.gB.1 1 _).setg HSR.out.gB.1 3 _).setg HSR.out.gB.1 4 _⟩
        rw [← HFIN.out]
        have h1 := HSR.out.set (wv' := .slice none 0 0) 1 (.slice none 0 0) rfl (Kd.R_nil k154 154 wr M0 (fun k => M0 ≤ k))
        have h2 := h1.set (wv' := .slice none 0 0) (down' := false) 3 (.bool false) rfl (Kd.R_nil k154 154 _ M0 (fun k => M0 ≤ k))
        exact h2.set (wv' := .slice none 0 0) (left' := -1) 4 (.int .i64 (-1)) rfl (Kd.R_nil k154 154 _ M0 (fun k => M0 ≤ k))

end Go.Proofs.Ytdbfclfglpbpmaa.Dsk
