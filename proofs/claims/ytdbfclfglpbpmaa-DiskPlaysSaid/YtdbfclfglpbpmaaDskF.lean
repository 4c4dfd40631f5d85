/- A disk: all that waits is laid. No condition. -/
import Derived.Test.YtdbfclfglpbpmaaDskE
namespace Go.Proofs.Ytdbfclfglpbpmaa.Dsk
open Go.AnyFacts Go.Proofs.Ytdbfclfglpbpmaa.Sha Go.RowKit Go.Proofs.YtdbfclfglpbpmaaW.Hand Go.Proofs.YtdbfclfglpbpmaaW.PrintWords Go.Proofs.YtdbfclfglpbpmaaW.PrintLast Go.Proofs.YtdbfclfglpbpmaaW.PrintMore Go.Proofs.Ytdbfclfglpbpmaa.PF21 Go.Proofs.Ytdbfclfglpbpmaa.Base Go.Proofs.Ytdbfclfglpbpmaa.LF21
attribute [local go_sem] max2_int min2_int max_two min_two max_three min_three max_four min_four
set_option linter.unusedVariables false
set_option linter.unusedSimpArgs false

theorem drop_step {α : Type} {l : List α} {i : Nat} (hi : i < l.length) : l.drop i = l[i] :: l.drop (i + 1) := List.drop_eq_getElem_cons hi
section
variable {B M0 g : Nat} {bv dv wv : Value} {bl : List (List Int)} {wt : List S154} {bad : List Int} {down : Bool} {left : Int} {w w1 : World}
theorem DSt.wats (s : DSt B M0 g bv dv wv bl wt bad down left w) (i : Nat) (hi : i < wt.length) (f : Int) (b : List Int) (hf : wt[i].f0 = f) (hb : wt[i].f1 = b) (h256 : b.length = 256) : ∃ ad cap A c, wv = .slice (some ad) wt.length cap ∧ (∀ (j : Nat) (v : Value), ([.int .i64 f, .slice (some A) 256 c] : List Value)[j]? = some v → w.cell? ((ad.add (i * 2)).add j) = some v) ∧ 256 ≤ c ∧ Kd.C (Kd.int .u8) w (some A) 256 b := by
  obtain ⟨ad, cap, A, c, e, h1, h2, h3, h4⟩ := s.wat i hi
  rw [hb, h256] at h2 h3 h4
  rw [hf] at h1
  obtain ⟨a, rfl, _⟩ := h4.2.2 (by omega)
  refine ⟨ad, cap, a, c, e, fun j v hj => ?_, h3, h4⟩
  rcases j with _ | _ | j
  · have : v = .int .i64 f := by simpa using hj.symm
    subst this
    rw [show (ad.add (i * 2)).add 0 = ad.add (i * 2) from by simp [Addr.add]]
    exact h1
  · have : v = .slice (some a) 256 c := by simpa using hj.symm
    subst this
    rw [show (ad.add (i * 2)).add 1 = ⟨(ad.add (i * 2)).block, (ad.add (i * 2)).off + 1, none⟩ from by simp [Addr.add]]
    exact h2
  · simp at hj
theorem Stp.of_below (h : Below w.heap.size w w1) (hB : B ≤ w.heap.size) : Stp B M0 g dv wv w w1 := (Stp.refl B M0 g dv wv w).then_ hB h
end
set_option maxHeartbeats 8000000 in
set_option maxRecDepth 100000 in
theorem DSt.Sync_down {B M0 g : Nat} {bv dv wv : Value} {bl : List (List Int)} {wt : List S154} {bad : List Int} {down : Bool} {left : Int} {w : World} (s : DSt B M0 g bv dv wv bl wt bad down left w) (hd : down = true) : Calls Try.prog 47 #[.pointer (some ⟨g, 0, none⟩)] w fun e w' => e = .returned (.int .i64 19) ∧ DSt B M0 g bv dv wv bl wt bad down left w' ∧ Stp B M0 g dv wv w w' := by
  have hx3 := s.cell3
  rw [hd] at hx3
  have HS := Aside0.mk s
  clear s hd
  go_enter Try.func47, Try.ntmps47
  go_wp2
  go_ret
  exact ⟨rfl, HS.out, Stp.refl B M0 g dv wv w⟩
set_option maxHeartbeats 8000000 in
set_option maxRecDepth 100000 in
theorem DSt.Sync_cut {B M0 g : Nat} {bv dv wv : Value} {bl : List (List Int)} {wt : List S154} {bad : List Int} {down : Bool} {left : Int} {w : World} (s : DSt B M0 g bv dv wv bl wt bad down left w) (hd : down = false) (h0 : left = 0) : Calls Try.prog 47 #[.pointer (some ⟨g, 0, none⟩)] w fun e w' => e = .returned (.int .i64 19) ∧ DSt B M0 g bv dv wv bl wt bad true left w' ∧ Stp B M0 g dv wv w w' := by
  have hx3 := s.cell3
  rw [hd] at hx3
  have HS := Aside0.mk s
  clear s hd
  go_enter Try.func47, Try.ntmps47
  go_wp2_with (first
    | (go_at_call 79; refine (HS.out.step0 h0).mono ?_; rintro e w5 ⟨rfl, h1, h2⟩; have HS5 := Aside0.mk h1; have HP5 := Aside0.mk h2; clear h1 h2))
  go_ret
  exact ⟨rfl, HS5.out, HP5.out⟩
def Ds47_6.T : Bool × List (List Nat × List Nat) := (true, [([], []), ([0], [0]), ([1], [1]), ([2], [2]), ([], []), ([4], [4]), ([3, 5], [3, 5]), ([6], [6]), ([], []), ([8], [8]), ([7, 9], [7, 9])])
def Ds47_6.B : List Nat := [0, 1, 3, 7, 0, 16, 63, 127, 0, 256, 1023]
theorem Ds47_6.tab : rtab .any (opsOf Try.f47 6) = Ds47_6.T := by kernel_rfl
theorem Ds47_6.bits : waitsOk Ds47_6.T.2 Ds47_6.B = true := by kernel_rfl
set_option maxHeartbeats 8000000 in
set_option maxRecDepth 100000 in
theorem DSt.Sync_ok {B M0 g : Nat} {bv dv wv : Value} {bl : List (List Int)} {wt : List S154} {bad : List Int} {down : Bool} {left : Int} {w : World} (s : DSt B M0 g bv dv wv bl wt bad down left w) (hd : down = false) (h0 : left ≠ 0) (hm : left ≤ 9223372036854775807) (hwf : WFd bl wt) (hwt : wt.length ≤ 1000) : Calls Try.prog 47 #[.pointer (some ⟨g, 0, none⟩)] w fun e w' => e = .returned (.int .i64 0) ∧ DSt B M0 g bv dv (.slice none 0 0) (syncB wt bl) [] bad down (dec left) w' ∧ Stp B M0 g dv wv w w' := by
  have hx3 := s.cell3
  rw [hd] at hx3
  obtain ⟨Aw, cw, ew⟩ := Kd.R_slice s.waits
  have HWT := Aside0.mk hwt
  have HWF := Aside0.mk hwf
  have HS := Aside0.mk s
  clear s hd hwf hwt
  subst ew
  go_enter Try.func47, Try.ntmps47
  go_wp2_with (first
    | (go_at_call 79; refine (HS.out.step1 h0 hm).mono ?_; rintro e w5 ⟨rfl, h1, h2⟩; have HS5 := Aside0.mk h1; have HP5 := Aside0.mk h2; have hx1 := h1.cell1; clear h1 h2))
  clear hx1 hx3
  go_loopg [19] (wt.length + 1) (fun kq v19 wr => ∃ (z : Int) (i : Nat) (cur : List (List Int)), v19 = .int .i64 z ∧ Aside0 (z = (i : Int) ∧ i + kq = wt.length + 1 ∧ i ≤ wt.length) ∧ Aside0 (WFd cur wt ∧ syncB (wt.drop i) cur = syncB wt bl) ∧ Aside0 (DSt B M0 g bv dv (.slice Aw wt.length cw) cur wt bad down (dec left) wr ∧ Stp B M0 g dv (.slice Aw wt.length cw) w wr))
  case atStart => exact ⟨0, 0, bl, rfl, ⟨rfl, by omega, by omega⟩, ⟨HWF.out, by rw [List.drop_zero]⟩, ⟨HS5.out, HP5.out⟩⟩
  case round =>
    obtain ⟨z, i, cur, rfl, HK, HW, HR⟩ := hrel
    obtain ⟨hz, hk, hil⟩ := HK.out
    have HSR := Aside0.mk HR.out.1
    have HPR := Aside0.mk HR.out.2
    clear HR HS5 HP5
    cases gk with
    | zero => omega
    | succ k1 =>
      by_cases hi : i < wt.length
      · have hib : decide (z < (wt.length : Int)) = true := decide_eq_true (by omega)
        obtain ⟨b, hb⟩ : ∃ b, wt[i].f1 = b := ⟨_, rfl⟩
        obtain ⟨f, hf⟩ : ∃ f, wt[i].f0 = f := ⟨_, rfl⟩
        obtain ⟨f0, f1, h256⟩ := HW.out.1.2 wt[i] (List.getElem_mem hi)
        rw [hf] at f0 f1
        rw [hb] at h256
        have HE : Aside0 ((.slice Aw wt.length cw : Value) = .slice Aw wt.length cw) := ⟨rfl⟩
        obtain ⟨ad, cap, Ax, cx, ew, hX, hcx, hCx⟩ := HSR.out.wats i hi f b hf hb h256
        injection ew with e3 _ e4
        subst e3 e4
        have hiz : i = z.toNat := by omega
        have hwr : wrap64 (z + 1) = ((i + 1 : Nat) : Int) := by have := HWT.out; rw [w64 (by omega) (by omega)]; omega
        have HWR := Aside0.mk hwr
        have HLAY := Aside0.mk (show syncB (wt.drop i) cur = syncB (wt.drop (i + 1)) (cur.set f.toNat (b ++ (cur.getD f.toNat []).drop 256)) by
          rw [drop_step hi, syncB]
          congr 1
          unfold layOne
          rw [hf, hb, List.take_of_length_le (by omega)])
        have HWF2 := Aside0.mk (show WFd (cur.set f.toNat (b ++ (cur.getD f.toNat []).drop 256)) wt by
          have := layOne_wf HW.out.1 (List.getElem_mem hi) (Nat.le_refl 256)
          unfold layOne at this
          rw [hf, hb, List.take_of_length_le (by omega)] at this
          exact this)
        rw [hiz] at hX
        have HX := Aside0.mk hX
        have HCX := Aside0.mk hCx
        have HI := Aside0.mk hi
        have HFR := Aside0.mk (show f.toNat < cur.length by omega)
        have p1 := eq_true (show (0 : Int) ≤ z by omega)
        have q1 := eq_true (show z < (wt.length : Int) by omega)
        have p2 := eq_true f0
        have q2 := eq_true f1
        have HBR := Aside0.mk (show B ≤ wr.heap.size by have := HSR.out.gB; omega)
        clear hX hCx hcx hz hk hil hi hb hf hiz hwr f0 f1 h256 HE
        go_wp2_with (first
          | ((with_reducible refine gate_dst (N := 22) rfl ?_); refine L_loadlist rfl 154 (.tmp 21) rfl (ad.add (z.toNat * 2)) rfl [.int .i64 f, .slice (some Ax) 256 cx] _ HX.out Try.underlying154 rfl (by kernel_rfl) ?_)
          | ((with_reducible refine gate_dst (N := 4) rfl ?_); refine L_alloc rfl 154 rfl (.agg #[.int .i64 0, .slice none 0 0]) 2 (by kernel_rfl) ?_; intro gx wx hbx hgx hsx hlx; have HBX := Aside0.mk hbx; have HGX := Aside0.mk hgx; have HLX := Aside0.mk hlx; have hxc0 : wx.cell? ⟨gx, 0, none⟩ = some (.int .i64 0) := (blk_cell hbx 0).trans rfl; have hxc1 : wx.cell? ⟨gx, 1, none⟩ = some (.slice none 0 0) := (blk_cell hbx 1).trans rfl; have hxf0 : wx.frozen? ⟨gx, 0, none⟩ = false := blk_frozen hbx 0; have hxf1 : wx.frozen? ⟨gx, 1, none⟩ = false := blk_frozen hbx 1; clear hbx hgx hsx hlx))
        obtain ⟨wy, hwy⟩ : ∃ wy, wy = (wx.setCell ⟨gx, 0, none⟩ (.int .i64 f)).setCell ⟨gx, 1, none⟩ (.slice (some Ax) 256 cx) := ⟨_, rfl⟩
        rw [← hwy]
        have HBY := Aside0.mk (show wy.heap[gx]? = some (.cells #[.int .i64 f, .slice (some Ax) 256 cx] 154 (0, 0)) from by rw [hwy]; exact (blk_set ((blk_set HBX.out 0 _).trans rfl) 1 _).trans rfl)
        have HLY := Aside0.mk (show Below wr.heap.size wr wy from by rw [hwy]; exact (HLX.out.setCell (p := ⟨gx, 0, none⟩) (Nat.le_of_eq HGX.out) _).setCell (p := ⟨gx, 1, none⟩) (Nat.le_of_eq HGX.out) _)
        clear hwy hxc0 hxc1 hxf0 hxf1
        have HSY := Aside0.mk ((HSR.out.below HLY.out).drew)
        have HPY := Aside0.mk ((HPR.out.then_ HBR.out HLY.out).then_ (Nat.le_trans HBR.out HLY.out.size) (below_drew (Below.refl _ _)))
        obtain ⟨adb, capb, Ai, ci, w2, eb, hcell, hcp, hs2, hp2⟩ := HSY.out.copy f.toNat HFR.out (HW.out.1.1 _ (List.getElem_mem _)) (sc := cx) (Kd.C_drew (Kd.C_below HCX.out HLY.out)) (Nat.le_refl 256) ⟨_, rfl⟩
        have hg0 := HSY.out.cell0
        rw [eb] at hg0
        have HG := Aside0.mk (show wy.drew.cell? ⟨g, 0, none⟩ = some (.slice (some adb) cur.length capb) ∧ wy.drew.cell? ⟨gx, 0, none⟩ = some (.int .i64 f) ∧ wy.drew.cell? ⟨gx, 1, none⟩ = some (.slice (some Ax) 256 cx) ∧ wy.drew.cell? (adb.add f.toNat) = some (.slice Ai 256 ci) from ⟨hg0, (blk_cell HBY.out 0).trans rfl, (blk_cell HBY.out 1).trans rfl, hcell⟩)
        have HCP := Aside0.mk hcp
        have HS2 := Aside0.mk hs2
        have HP2 := Aside0.mk (HPY.out.join hp2 (fun _ h => .inl h))
        clear eb hcell hcp hs2 hp2 hg0 HSY HPY HX HBX HLX HGX
        refine start_ (n := 11) (S := fun w' => w'.cell? ⟨g, 0, none⟩ = some (.slice (some adb) cur.length capb) ∧ w'.cell? ⟨gx, 0, none⟩ = some (.int .i64 f) ∧ w'.cell? ⟨gx, 1, none⟩ = some (.slice (some Ax) 256 cx) ∧ w'.cell? (adb.add f.toNat) = some (.slice Ai 256 ci)) (ds := [10]) #[false, false, false, false, false, false, false, false, false, false, false] (by kernel_rfl) rfl rfl ⟨HG.out.1, HG.out.2.1, HG.out.2.2.1, HG.out.2.2.2⟩ (fun hHeld => ?_); refine with_tabW Ds47_6.tab Ds47_6.bits (fun HT_ HW_ => ?_)
        refine pure_ (i := 0) (N := some 23) (v := ?_) (a' := ?_) #[true, false, false, false, false, false, false, false, false, false, false] rfl rfl (any_of HT_.out (by kernel_rfl)) (fun _ _ _ h => h) (Or.inl ⟨by rfl, ?_⟩) ?_ ?_
        rotate_left
        · intro w'
          go_simp
          with_reducible rfl
        rotate_left
        · simp only [Act.put, List.setIfInBounds_toArray, List.set_cons_zero, List.set_cons_succ, i64_w, i32_w]
          rfl
        refine pure_ (i := 1) (N := some 24) (v := ?_) (a' := ?_) #[true, true, false, false, false, false, false, false, false, false, false] rfl rfl (any_of HT_.out (by kernel_rfl)) (fun _ _ _ h => h) (Or.inl ⟨by rfl, ?_⟩) ?_ ?_
        rotate_left
        · intro w'
          go_simp
          with_reducible rfl
        rotate_left
        · simp only [Act.put, List.setIfInBounds_toArray, List.set_cons_zero, List.set_cons_succ, i64_w, i32_w]
          rfl
        refine pure_ (i := 2) (N := some 25) (v := ?_) (a' := ?_) #[true, true, true, false, false, false, false, false, false, false, false] rfl rfl (any_of HT_.out (by kernel_rfl)) (fun _ _ _ h => h) (Or.inl ⟨by rfl, ?_⟩) ?_ ?_
        rotate_left
        · intro w'
          go_simp
          with_reducible rfl
        rotate_left
        · simp only [Act.put, List.setIfInBounds_toArray, List.set_cons_zero, List.set_cons_succ, i64_w, i32_w]
          rfl
        refine take_ (i := 3) (N := some 26) (v := ?_) (a' := ?_) #[true, true, true, true, false, false, false, false, false, false, false] rfl rfl (take_ofW HT_.out HW_.out (by kernel_rfl)) (fun _ _ _ h => h) (Or.inl ⟨by rfl, ?_⟩) hHeld ?_ ?_
        rotate_left
        · rintro w' ⟨s0, s1, s2, s3⟩
          go_simp
          with_reducible rfl
        rotate_left
        · simp only [Act.put, List.setIfInBounds_toArray, List.set_cons_zero, List.set_cons_succ, i64_w, i32_w]
          rfl
        refine pure_ (i := 4) (N := some 27) (v := ?_) (a' := ?_) #[true, true, true, true, true, false, false, false, false, false, false] rfl rfl (any_of HT_.out (by kernel_rfl)) (fun _ _ _ h => h) (Or.inl ⟨by rfl, ?_⟩) ?_ ?_
        rotate_left
        · intro w'
          go_simp
          with_reducible rfl
        rotate_left
        · simp only [Act.put, List.setIfInBounds_toArray, List.set_cons_zero, List.set_cons_succ, i64_w, i32_w]
          rfl
        refine take_ (i := 5) (N := some 28) (v := ?_) (a' := ?_) #[true, true, true, true, true, true, false, false, false, false, false] rfl rfl (take_ofW HT_.out HW_.out (by kernel_rfl)) (fun _ _ _ h => h) (Or.inl ⟨by rfl, ?_⟩) hHeld ?_ ?_
        rotate_left
        · rintro w' ⟨s0, s1, s2, s3⟩
          go_simp
          with_reducible rfl
        rotate_left
        · simp only [Act.put, List.setIfInBounds_toArray, List.set_cons_zero, List.set_cons_succ, i64_w, i32_w]
          rfl
        refine pure_ (i := 6) (N := some 29) (v := ?_) (a' := ?_) #[true, true, true, true, true, true, true, false, false, false, false] rfl rfl (any_of HT_.out (by kernel_rfl)) (fun _ _ _ h => h) (Or.inl ⟨by rfl, ?_⟩) ?_ ?_
        rotate_left
        · intro w'
          go_simp
          with_reducible rfl
        rotate_left
        · simp only [Act.put, List.setIfInBounds_toArray, List.set_cons_zero, List.set_cons_succ, i64_w, i32_w]
          rfl
        refine take_ (i := 7) (N := some 30) (v := ?_) (a' := ?_) #[true, true, true, true, true, true, true, true, false, false, false] rfl rfl (take_ofW HT_.out HW_.out (by kernel_rfl)) (fun _ _ _ h => h) (Or.inl ⟨by rfl, ?_⟩) hHeld ?_ ?_
        rotate_left
        · rintro w' ⟨s0, s1, s2, s3⟩
          go_simp
          with_reducible rfl
        rotate_left
        · simp only [Act.put, List.setIfInBounds_toArray, List.set_cons_zero, List.set_cons_succ, i64_w, i32_w]
          rfl
        refine pure_ (i := 8) (N := some 31) (v := ?_) (a' := ?_) #[true, true, true, true, true, true, true, true, true, false, false] rfl rfl (any_of HT_.out (by kernel_rfl)) (fun _ _ _ h => h) (Or.inl ⟨by rfl, ?_⟩) ?_ ?_
        rotate_left
        · intro w'
          go_simp
          with_reducible rfl
        rotate_left
        · simp only [Act.put, List.setIfInBounds_toArray, List.set_cons_zero, List.set_cons_succ, i64_w, i32_w]
          rfl
        refine take_ (i := 9) (N := some 32) (v := ?_) (a' := ?_) #[true, true, true, true, true, true, true, true, true, true, false] rfl rfl (take_ofW HT_.out HW_.out (by kernel_rfl)) (fun _ _ _ h => h) (Or.inl ⟨by rfl, ?_⟩) hHeld ?_ ?_
        rotate_left
        · rintro w' ⟨s0, s1, s2, s3⟩
          go_simp
          with_reducible rfl
        rotate_left
        · simp only [Act.put, List.setIfInBounds_toArray, List.set_cons_zero, List.set_cons_succ, i64_w, i32_w]
          rfl
        refine last_ (i := 10) (N := some 33) #[true, true, true, true, true, true, true, true, true, true, true] rfl rfl (one_of HT_.out (by kernel_rfl)) (by decide) (fun Kq hKq => ?_)
        refine step_copy_known rfl _ _ 22 22 rfl _ _ (by rfl) (by rfl) (HCP.out _) ?_
        refine hKq.out _ _ ?_
        clear hKq Kq
        refine norm_ (a' := ?_) ?_ ?_
        rotate_left
        · show Act.put _ (some 33) _ = _
          simp only [Act.put, List.setIfInBounds_toArray, List.set_cons_zero, List.set_cons_succ, i64_w, i32_w]
          rfl
        refine done_ (done_of HT_.out (by kernel_rfl)) ?_
        go_wp2
        go_roundg k1
        case measure => have := HK.out.2.1; omega
        case rel => exact ⟨wrap64 (z + 1), i + 1, _, rfl, ⟨HWR.out, by have := HK.out.2.1; omega, by have := HI.out; omega⟩, ⟨HWF2.out, by rw [← HLAY.out]; exact HW.out.2⟩, ⟨by have h := HS2.out; rw [← rdl ([] : List Int) HFR.out] at h; exact h, HP2.out⟩⟩
      · have hib : decide (z < (wt.length : Int)) = false := decide_eq_false (by omega)
        have hie : i = wt.length := by omega
        have hfin := HW.out.2
        rw [hie, List.drop_length] at hfin
        have HFIN := Aside0.mk (show cur = syncB wt bl from hfin)
        have hx1 := HSR.out.cell1
        have hf1 : wr.frozen? ⟨g, 1, none⟩ = false := blk_frozen HSR.out.blk 1
        clear hz hk hil hi hie hfin
        go_wp2
        go_ret
        refine ⟨rfl, ?_, HPR.out.setg HSR.out.gB.1 1 _⟩
        rw [← HFIN.out]
        exact HSR.out.set 1 _ rfl (Kd.R_nil _ _ _ _ _)

end Go.Proofs.Ytdbfclfglpbpmaa.Dsk
