/- The law DiskKeeps, walked by hand. No condition. -/
import Derived.Test.YtdbfclfglpbpmaaDskK
namespace Go.Proofs.Ytdbfclfglpbpmaa.Dsk
open Go.AnyFacts Go.Proofs.Ytdbfclfglpbpmaa.Sha Go.RowKit Go.Proofs.YtdbfclfglpbpmaaW.Hand Go.Proofs.YtdbfclfglpbpmaaW.PrintWords Go.Proofs.YtdbfclfglpbpmaaW.PrintLast Go.Proofs.YtdbfclfglpbpmaaW.PrintMore Go.Proofs.Ytdbfclfglpbpmaa.PF21 Go.Proofs.Ytdbfclfglpbpmaa.Base Go.Proofs.Ytdbfclfglpbpmaa.LF21
attribute [local go_sem] max2_int min2_int max_two min_two max_three min_three max_four min_four
set_option linter.unusedVariables false
set_option linter.unusedSimpArgs false

theorem DSt.low {B M0 g : Nat} {bv dv wv : Value} {bl : List (List Int)} {wt : List S154} {bad : List Int} {down : Bool} {left : Int} {w w1 : World} (s : DSt B M0 g bv dv wv bl wt bad down left w) (hm : ∀ k, B ≤ k → w1.heap[k]? = w.heap[k]?) (hs : w1.heap.size = w.heap.size) : DSt B M0 g bv dv wv bl wt bad down left w1 := by
  have hgB := s.gB
  refine ⟨(hm g hgB.1).trans s.blk, Kd.S_step s.blocks (fun k hk _ => hm k hk.1), Kd.R_step s.waits (fun k hk _ => hm k (by have hk' : M0 ≤ k := hk; omega)), ?_, hgB.1, hgB.2.1, by rw [hs]; exact hgB.2.2⟩
  exact Kd.R_mono (Kd.R_step (Kd.R_bound s.badr) (fun k hk _ => hm k hk.2.1)) (fun k hk => hk.1)
def Dl10_19.T : Bool × List (List Nat × List Nat) := (true, [([], []), ([], []), ([], []), ([1, 2], [1, 2]), ([3], [3]), ([4], [4]), ([], []), ([], []), ([6, 7], [6, 7]), ([8], [8]), ([9], [9]), ([0, 5, 10, 10], [0, 5, 10])])
def Dl10_19.B : List Nat := [0, 0, 0, 6, 14, 30, 0, 0, 192, 448, 960, 2047]
theorem Dl10_19.tab : rtab .any (opsOf Try.f10 19) = Dl10_19.T := by kernel_rfl
theorem Dl10_19.bits : waitsOk Dl10_19.T.2 Dl10_19.B = true := by kernel_rfl
def Dl10_24.T : Bool × List (List Nat × List Nat) := (true, [([], []), ([], []), ([0, 1], [0, 1]), ([], []), ([3, 2], [3]), ([2, 4, 4], [2, 4]), ([5], [5])])
def Dl10_24.B : List Nat := [0, 0, 3, 0, 15, 31, 63]
theorem Dl10_24.tab : rtab .any (opsOf Try.f10 24) = Dl10_24.T := by kernel_rfl
theorem Dl10_24.bits : waitsOk Dl10_24.T.2 Dl10_24.B = true := by kernel_rfl
set_option maxHeartbeats 8000000 in
set_option maxRecDepth 100000 in
theorem DiskKeeps_calls (A0 : Option Addr) (c0 : Nat) (l : List DOp) (first : DOp) (A1 : Option Addr) (c1 : Nat) (at_ : Int) (w : World) (hC : Kd.C kOp w A0 l.length l) (hc : l.length ≤ c0) (hwf : ∀ x ∈ l, WFOp x) (hwf1 : WFOp first) (hC1 : Kd.C (Kd.int .i64) w A1 first.2.2.2.2.2.length first.2.2.2.2.2) (hc1 : first.2.2.2.2.2.length ≤ c1) (hat : (Lit.int .u8 at_).wf = true) :
    Calls Try.prog 10 #[.slice A0 l.length c0, .agg (opC first A1 c1).toArray, .int .u8 at_] w fun e w' => e = .returned (.bool true) ∧ Below w.heap.size w w' := by
  have hat2 := bounds_u8 hat
  obtain ⟨kn, hkn⟩ := New_ev 4 [] (by decide) (by decide) (by decide)
  have HN := Aside0.mk hkn
  have HC := Aside0.mk hC
  have HWF := Aside0.mk hwf
  have HPF0 := Aside0.mk (F_in hC1)
  have HPC := Aside0.mk hc1
  have hpt := ptrW_true
  have hpf := ptrW_false
  clear hkn hC hc hwf hwf1 hC1 hc1 hat
  by_cases hlen : l.length > 30
  · have hd : decide ((l.length : Int) > 30) = true := decide_eq_true (by omega)
    clear hlen hat2
    go_enter Try.func10, Try.ntmps10
    go_wp2_with (first
      | ((with_reducible refine gate_dst (N := 4) rfl ?_); refine L_box rfl 88 (.tmp 1) rfl (.agg (opC first A1 c1).toArray) rfl ?_; intro g0 wb hb hg hs hl; have HBX := Aside0.mk (show wb.heap[g0]? = some (.cells (opC first A1 c1).toArray 88 (0, 0)) from hb); have HBG := Aside0.mk hg; have HBB := Aside0.mk hl; clear hb hg hs hl)
      | (go_at_call 43; refine (awake_calls _).mono ?_; rintro e w2 ⟨rfl, hb⟩; have HB2 := Aside0.mk (below_step HBB.out hb); have HBX2 := Aside0.mk (blk_below HBX.out hb); clear hb))
    go_ret
    exact ⟨rfl, HB2.out⟩
  · have hd : decide ((l.length : Int) > 30) = false := decide_eq_false (by omega)
    have HLEN := Aside0.mk (show l.length ≤ 30 by omega)
    obtain ⟨f0, hf0⟩ : ∃ f0 : DOp, f0 = (first.1, first.2.1, first.2.2.1, first.2.2.2.1, false, first.2.2.2.2.2) := ⟨_, rfl⟩
    have HF0 := Aside0.mk hf0
    obtain ⟨zn, hzn⟩ : ∃ zn : Int, zn = Int.tmod at_ 4 := ⟨_, rfl⟩
    obtain ⟨n, hn⟩ : ∃ n : Nat, Int.tmod at_ 4 = (n : Int) := ⟨(Int.tmod at_ 4).toNat, by rw [Int.tmod_eq_emod_of_nonneg hat2.1]; omega⟩
    have hn4 : n < 4 := by rw [Int.tmod_eq_emod_of_nonneg hat2.1] at hn; omega
    have hnw : IntKind.u8.wrap zn = zn := by simp [IntKind.wrap, IntKind.bits, IntKind.signed]; omega
    have hnw2 : wrap64 zn = zn := by unfold wrap64; omega
    have HZN := Aside0.mk (show zn = (n : Int) from hzn.trans hn)
    have hzn2 := hzn.symm
    obtain ⟨kb, hkb⟩ := block_ev f0.1 f0.2.1 f0.2.2.1 f0.2.2.2.1 f0.2.2.2.2.1 f0.2.2.2.2.2
    obtain ⟨b0, hb0⟩ : ∃ b0, b0 = blkL f0.2.2.1 f0.2.2.2.1 f0.2.2.2.2.1 := ⟨_, rfl⟩
    rw [← hb0] at hkb
    have HKB := Aside0.mk hkb
    have HB0L := Aside0.mk (show b0.length = 256 by rw [hb0, hf0]; exact blkL_full _ _)
    have HPC0 := Aside0.mk (show f0.2.2.2.2.2.length ≤ c1 by rw [hf0]; exact HPC.out)
    have HWS := Aside0.mk (show wrS (List.replicate 4 zeros).length [] [] false (-1) zn b0 = (0, [⟨zn, b0⟩], false, -1) by
      unfold wrS
      rw [if_neg (by decide), if_neg (by rw [List.length_replicate, HB0L.out, HZN.out]; omega), if_neg (by simp), if_neg (by decide)]
      rfl)
    have HWFD := Aside0.mk (show WFd (List.replicate 4 zeros) [⟨zn, b0⟩] from ⟨fun b hb => by obtain ⟨_, rfl⟩ := List.mem_replicate.1 hb; exact List.length_replicate, fun x hx => by obtain rfl := List.mem_singleton.1 hx; exact ⟨by show 0 ≤ zn; have := HZN.out; omega, by show zn < _; rw [List.length_replicate]; have := HZN.out; omega, HB0L.out⟩⟩)
    have HSY := Aside0.mk (show syS (List.replicate 4 zeros) [⟨zn, b0⟩] false (-1) = (0, syncB [⟨zn, b0⟩] (List.replicate 4 zeros), [], false, -1) from rfl)
    have HPF4 := Aside0.mk (fun (W : World) (hb : Below w.heap.size w W) => (show Kd.C (Kd.int .i64) W A1 f0.2.2.2.2.2.length f0.2.2.2.2.2 by rw [hf0]; exact Kd.F_now (Kd.F_below HPF0.out hb)))
    clear hb0 hkb
    have HN4 := Aside0.mk hn4
    clear hlen hat2 hn4 hn hzn hf0
    go_enter Try.func10, Try.ntmps10
    go_wp2_with (first
      | ((with_reducible refine gate_dst (N := 4) rfl ?_); refine L_box rfl 88 (.tmp 1) rfl (.agg (opC first A1 c1).toArray) rfl ?_; intro g0 wb hb hg hs hl; have HBX := Aside0.mk (show wb.heap[g0]? = some (.cells (opC first A1 c1).toArray 88 (0, 0)) from hb); have HBG := Aside0.mk hg; have HBB := Aside0.mk hl; clear hb hg hs hl)
      | (go_at_call 43; refine (awake_calls _).mono ?_; rintro e w2 ⟨rfl, hb⟩; have HB2 := Aside0.mk (below_step HBB.out hb); have HBX2 := Aside0.mk (blk_below HBX.out hb); clear hb)
      | (go_at_call 44; refine (disk_New.calls kn 4 none 0 [] _ _ _ _ _ _ _ _ (Kd.C_nil _ _) (Nat.le_refl _) HN.out).mono ?_; rintro e w3 ⟨v1, v2, v3, g, ⟨rfl, hS, hW, hB, hblk, hg, hb⟩⟩; have HS1 := Aside0.mk (made hS hW.out.1 hB (hblk rfl) hg); have HB1 := Aside0.mk hb; have HBX3 := Aside0.mk (blk_below HBX2.out hb); have HG0 := Aside0.mk (blk_lt HBX2.out); have hx4 : w3.cell? ⟨g0, 4, none⟩ = some (.bool first.2.2.2.2.1) := (blk_cell HBX3.out 4).trans rfl; have hf4 : w3.frozen? ⟨g0, 4, none⟩ = false := blk_frozen HBX3.out 4; have HBX4 := Aside0.mk (show (w3.setCell ⟨g0, 4, none⟩ (.bool false)).heap[g0]? = some (.cells (opC f0 A1 c1).toArray 88 (0, 0)) from by rw [HF0.out]; exact (blk_set HBX3.out 4 _).trans rfl); have HS4 := Aside0.mk (HS1.out.low (w1 := w3.setCell ⟨g0, 4, none⟩ (.bool false)) (fun k hk => Below.heap_setCell w3 ⟨g0, 4, none⟩ _ k (fun e => Nat.lt_irrefl _ (Nat.lt_of_lt_of_le (e ▸ HG0.out) hk))) (World.size_setCell _ _ _)); have HB4 := Aside0.mk (show Below w.heap.size w (w3.setCell ⟨g0, 4, none⟩ (.bool false)) from (below_step HB2.out HB1.out).setCell (p := ⟨g0, 4, none⟩) (Nat.le_of_eq HBG.out) _); clear hS hW hB hblk hg hb)
      | ((with_reducible refine gate_dst (N := 32) rfl ?_); refine L_load rfl 88 (.tmp 4) rfl g0 rfl 88 (opC f0 A1 c1).toArray _ HBX4.out Try.underlying88 rfl (by kernel_rfl) ?_)
      | (go_at_call 46; refine (batonlaw21_block.calls kb f0.1 f0.2.1 f0.2.2.1 f0.2.2.2.1 f0.2.2.2.2.1 A1 c1 f0.2.2.2.2.2 _ (w3.setCell ⟨g0, 4, none⟩ (.bool false)) (HPF4.out _ HB4.out) HPC0.out HKB.out).mono ?_; rintro e w5 ⟨v5, rfl, hr, hb⟩; obtain ⟨A5, c5, e5⟩ := Kd.R_slice hr; subst e5; have HF5 := Aside0.mk (HS4.out.freshF (Nat.le_refl _) hr); have HL5 := Aside0.mk (Kd.R_reads' hr).2.1; have HS5 := Aside0.mk (HS4.out.below hb); have HP5 := Aside0.mk (Stp.of_below (B := w2.heap.size) (M0 := w3.heap.size) (g := g) (dv := v3) (wv := .slice none 0 0) hb (by have := HS4.out.gB; omega)); clear hr hb)
      | (go_at_call 45; refine (HS5.out.Write zn A5 c5 b0 HF5.out HL5.out (by decide) (by decide) (by decide)).mono ?_; rintro e w6 ⟨rfl, wv6, h1, h2, h3⟩; rw [HWS.out] at h1 ⊢; have HS6 := Aside0.mk (show DSt w2.heap.size w3.heap.size g v1 v3 wv6 (List.replicate 4 zeros) [⟨zn, b0⟩] [] false (-1) w6 from h1); have HP6 := Aside0.mk (HP5.out.below.trans h2.below); clear h1 h2 h3)
      | (go_at_call 47; refine (HS6.out.Sync (by decide) HWFD.out (show 1 ≤ 1000 by decide)).mono ?_; rintro e w7 ⟨rfl, wv7, h1, h2, h3⟩; rw [HSY.out] at h1 ⊢; have HS7 := Aside0.mk (show DSt w2.heap.size w3.heap.size g v1 v3 wv7 (syncB [⟨zn, b0⟩] (List.replicate 4 zeros)) [] [] false (-1) w7 from h1); have HP7 := Aside0.mk (HP6.out.trans h2.below); clear h1 h2 h3))
    generalize w3.setCell ⟨g0, 4, none⟩ (.bool false) = w4 at HBX4 HS4 HB4 HP5 HP6 HP7
    have HK0 := Aside0.mk (show KepX w2.heap.size w4 w3.heap.size g v1 v3 n b0 0 w7 from ⟨_, _, _, _, _, HS7.out, HP7.out, (syncB_wf _ HWFD.out (fun x hx => hx)).2, ⟨(syncB_wf _ HWFD.out (fun x hx => hx)).1.1, fun x hx => absurd hx (by simp)⟩, by
      show (layOne (List.replicate 4 zeros) ⟨zn, b0⟩ 256)[n]? = some b0
      unfold layOne
      show ((List.replicate 4 zeros).set zn.toNat (b0.take 256 ++ ((List.replicate 4 zeros).getD zn.toNat []).drop 256))[n]? = some b0
      have hn := HZN.out
      have hn4 := HN4.out
      rw [show zn.toNat = n by omega, List.getElem?_set_self (by rw [List.length_replicate]; exact hn4), rdl _ (by rw [List.length_replicate]; exact hn4), List.getElem_replicate, List.take_of_length_le (by rw [HB0L.out]; exact Nat.le_refl _), show zeros.drop 256 = [] from rfl, List.append_nil], fun x hx => absurd hx (by simp), Nat.zero_le _, by decide⟩)
    have HWB := Aside0.mk (show w.heap.size ≤ w2.heap.size from HB2.out.size)
    have HBW := Aside0.mk (fun (i : Nat) (W : World) (hK : KepX w2.heap.size w4 w3.heap.size g v1 v3 n b0 i W) => (show Below w.heap.size w W by obtain ⟨_, _, _, _, _, hk⟩ := hK; exact HB4.out.trans (hk.below.mono HWB.out)))
    have HPF := Aside0.mk (fun (W : World) (hb : Below w2.heap.size w4 W) => (show Kd.F (Kd.int .i64) W (fun k => k < w2.heap.size) A1 f0.2.2.2.2.2.length f0.2.2.2.2.2 by rw [HF0.out]; exact Kd.F_mono (Kd.F_below HPF0.out (HB4.out.trans (hb.mono HWB.out))) (fun k hk => Nat.lt_of_lt_of_le hk HWB.out)))
    obtain ⟨ks, hks⟩ := (ev_eq (Same_ev b0 b0 (by have := HB0L.out; omega)) (decide_eq_true rfl)).rounds
    have HKS := Aside0.mk hks
    clear hpt hpf HN HPF0 HPC HWS HWFD HSY HPF4 HBX HBG HBB HB2 HBX2 HS1 HB1 HBX3 hx4 hf4 HS4 HF5 HL5 HS5 HP5 HS6 HP6 HS7 HP7 hks hnw hnw2 hzn2
    go_loopg [10] (l.length + 1) (fun kq v10 wr => ∃ (z : Int) (i : Nat), v10 = .int .i64 z ∧ Aside0 (z = (i : Int) ∧ i + kq = l.length + 1 ∧ i ≤ l.length) ∧ Aside0 (KepX w2.heap.size w4 w3.heap.size g v1 v3 n b0 i wr))
    case atStart => exact ⟨0, 0, rfl, ⟨rfl, by omega, by omega⟩, HK0⟩
    case round =>
      obtain ⟨z, i, rfl, HK, HKI⟩ := hrel
      obtain ⟨hz, hk, hil⟩ := HK.out
      clear HK0
      cases gk with
      | zero => omega
      | succ k1 =>
        by_cases hi : i < l.length
        · have hib : decide (z < (l.length : Int)) = true := decide_eq_true (by omega)
          obtain ⟨adr, e1, Ax, cx, hcl, hCp, hcell⟩ := at_Op HC.out i hi
          cases e1
          have hwfx := HWF.out l[i] (List.getElem_mem hi)
          have hwr : wrap64 (z + 1) = ((i + 1 : Nat) : Int) := by have := HLEN.out; rw [w64 (by omega) (by omega)]; omega
          have HWR := Aside0.mk hwr
          have HI := Aside0.mk hi
          have HI100 := Aside0.mk (show i ≤ 100 by have := HLEN.out; omega)
          have p1 := eq_true (show (0 : Int) ≤ z by omega)
          have q1 := eq_true (show z < (l.length : Int) by omega)
          generalize l[i] = x at hcl hCp hcell hwfx
          obtain ⟨kx, hkx⟩ := block_ev x.1 x.2.1 x.2.2.1 x.2.2.2.1 x.2.2.2.2.1 x.2.2.2.2.2
          have HKX1 := Aside0.mk hkx
          have HXW := Aside0.mk (show ∀ (j : Nat) (v : Value), (opC x Ax cx)[j]? = some v → w.cell? ((adr.add (z.toNat * 6)).add j) = some v from fun j v hv => by rw [add_add, show z.toNat = i by omega]; exact hcell j v hv)
          have HXM := Aside0.mk (fun (W : World) (hK : KepX w2.heap.size w4 w3.heap.size g v1 v3 n b0 (i + 1) W) => cells_below HXW.out (HBW.out _ W hK))
          have HBR := Aside0.mk (HBW.out _ wr HKI.out)
          have HXD0 := Aside0.mk (cells_below HXW.out HBR.out)
          have HXD := Aside0.mk (show ∀ (j : Nat) (v : Value), (opC x Ax cx)[j]? = some v → wr.drew.cell? ((adr.add (z.toNat * 6)).add j) = some v from HXD0.out)
          have HXP := Aside0.mk (fun (W : World) (hb : Below wr.heap.size wr W) => Kd.C_below hCp (below_step HBR.out hb))
          have HXL := Aside0.mk hcl
          have HXF := Aside0.mk (show Kd.F (Kd.int .i64) wr (fun k => k < w2.heap.size) Ax x.2.2.2.2.2.length x.2.2.2.2.2 from Kd.F_mono (Kd.F_below (F_in hCp) HBR.out) (fun k hk => Nat.lt_of_lt_of_le hk HWB.out))
          have HN1 := Aside0.mk (bounds_i64 hwfx.2.1)
          have hx0 := (op_cells HXD0.out).1
          have hx1 := (op_cells HXD0.out).2.1
          have hx5 := (op_cells HXD0.out).2.2
          clear hcl hCp hcell hwfx hwr hkx hz hk hil hi
          obtain ⟨wv0, bl0, wt0, down0, left0, hkw0⟩ := HKI.out
          have HKW0 := Aside0.mk hkw0
          clear hkw0
          by_cases hk0 : x.1 = 0
          · have hb0 : (x.1 == 0) = true := beq_iff_eq.mpr hk0
            have hbz : ((0 : Int) == 0) = true := rfl
            by_cases hnn : x.2.1 = zn
            · have hnb : (x.2.1 == zn) = true := beq_iff_eq.mpr hnn
              have hnz : (zn == zn) = true := beq_self_eq_true zn
              clear hk0 hnn
              go_wp2
              go_roundg k1
              case measure => have := HK.out.2.1; omega
              case rel => exact ⟨wrap64 (z + 1), i + 1, rfl, ⟨HWR.out, by have := HK.out.2.1; omega, by have := HI.out; omega⟩, ⟨HKW0.out.next⟩⟩
            · have hnb : (x.2.1 == zn) = false := beq_eq_false_iff_ne.mpr hnn
              have HNE := Aside0.mk (show x.2.1 ≠ (n : Int) from fun e => hnn (e.trans HZN.out.symm))
              clear hk0 hnn hx5
              go_wp2
              refine start_ (n := 12) (S := fun w' => (∀ (j : Nat) (v : Value), (opC x Ax cx)[j]? = some v → w'.cell? ((adr.add (z.toNat * 6)).add j) = some v) ∧ w'.cell? ⟨(adr.add (z.toNat * 6)).block, (adr.add (z.toNat * 6)).off + 1, none⟩ = some (.int .i64 x.2.1)) (ds := []) #[false, false, false, false, false, false, false, false, false, false, false, false] (by kernel_rfl) rfl rfl ⟨HXD.out, (op_cells HXD.out).2.1⟩ (fun hHeld => ?_); refine with_tabW Dl10_19.tab Dl10_19.bits (fun HT_ HW_ => ?_)
              refine pure_ (i := 0) (N := some 76) (v := ?_) (a' := ?_) #[true, false, false, false, false, false, false, false, false, false, false, false] rfl rfl (any_of HT_.out (by kernel_rfl)) (fun _ _ _ h => h) (Or.inl ⟨by rfl, ?_⟩) ?_ ?_
              rotate_left
              · intro w'
                go_simp
                with_reducible rfl
              rotate_left
              · simp only [Act.put, List.setIfInBounds_toArray, List.set_cons_zero, List.set_cons_succ, i64_w, i32_w]
                rfl
              refine pure_ (i := 1) (N := some 77) (v := ?_) (a' := ?_) #[true, true, false, false, false, false, false, false, false, false, false, false] rfl rfl (any_of HT_.out (by kernel_rfl)) (fun _ _ _ h => h) (Or.inl ⟨by rfl, ?_⟩) ?_ ?_
              rotate_left
              · intro w'
                go_simp
                with_reducible rfl
              rotate_left
              · simp only [Act.put, List.setIfInBounds_toArray, List.set_cons_zero, List.set_cons_succ, i64_w, i32_w]
                rfl
              refine pure_ (i := 2) (N := some 78) (v := ?_) (a' := ?_) #[true, true, true, false, false, false, false, false, false, false, false, false] rfl rfl (any_of HT_.out (by kernel_rfl)) (fun _ _ _ h => h) (Or.inl ⟨by rfl, ?_⟩) ?_ ?_
              rotate_left
              · intro w'
                go_simp
                with_reducible rfl
              rotate_left
              · simp only [Act.put, List.setIfInBounds_toArray, List.set_cons_zero, List.set_cons_succ, i64_w, i32_w]
                rfl
              refine pure_ (i := 3) (N := some 79) (v := ?_) (a' := ?_) #[true, true, true, true, false, false, false, false, false, false, false, false] rfl rfl (any_of HT_.out (by kernel_rfl)) (fun _ _ _ h => h) (Or.inl ⟨by rfl, ?_⟩) ?_ ?_
              rotate_left
              · intro w'
                go_simp
                with_reducible rfl
              rotate_left
              · simp only [Act.put, List.setIfInBounds_toArray, List.set_cons_zero, List.set_cons_succ, i64_w, i32_w]
                rfl
              refine pure_ (i := 4) (N := some 80) (v := ?_) (a' := ?_) #[true, true, true, true, true, false, false, false, false, false, false, false] rfl rfl (any_of HT_.out (by kernel_rfl)) (fun _ _ _ h => h) (Or.inl ⟨by rfl, ?_⟩) ?_ ?_
              rotate_left
              · intro w'
                go_simp
                with_reducible rfl
              rotate_left
              · simp only [Act.put, List.setIfInBounds_toArray, List.set_cons_zero, List.set_cons_succ, i64_w, i32_w]
                rfl
              refine take_ (i := 5) (N := some 81) (v := ?_) (a' := ?_) #[true, true, true, true, true, true, false, false, false, false, false, false] rfl rfl (take_ofW HT_.out HW_.out (by kernel_rfl)) (fun _ _ _ h => h) (Or.inl ⟨by rfl, ?_⟩) hHeld ?_ ?_
              rotate_left
              · rintro w' ⟨s0, s1⟩
                go_simp
                with_reducible rfl
              rotate_left
              · simp only [Act.put, List.setIfInBounds_toArray, List.set_cons_zero, List.set_cons_succ, i64_w, i32_w]
                rfl
              refine pure_ (i := 6) (N := some 82) (v := ?_) (a' := ?_) #[true, true, true, true, true, true, true, false, false, false, false, false] rfl rfl (any_of HT_.out (by kernel_rfl)) (fun _ _ _ h => h) (Or.inl ⟨by rfl, ?_⟩) ?_ ?_
              rotate_left
              · intro w'
                go_simp
                with_reducible rfl
              rotate_left
              · simp only [Act.put, List.setIfInBounds_toArray, List.set_cons_zero, List.set_cons_succ, i64_w, i32_w]
                rfl
              refine pure_ (i := 7) (N := some 83) (v := ?_) (a' := ?_) #[true, true, true, true, true, true, true, true, false, false, false, false] rfl rfl (any_of HT_.out (by kernel_rfl)) (fun _ _ _ h => h) (Or.inl ⟨by rfl, ?_⟩) ?_ ?_
              rotate_left
              · intro w'
                go_simp
                with_reducible rfl
              rotate_left
              · simp only [Act.put, List.setIfInBounds_toArray, List.set_cons_zero, List.set_cons_succ, i64_w, i32_w]
                rfl
              refine pure_ (i := 8) (N := some 84) (v := ?_) (a' := ?_) #[true, true, true, true, true, true, true, true, true, false, false, false] rfl rfl (any_of HT_.out (by kernel_rfl)) (fun _ _ _ h => h) (Or.inl ⟨by rfl, ?_⟩) ?_ ?_
              rotate_left
              · intro w'
                go_simp
                with_reducible rfl
              rotate_left
              · simp only [Act.put, List.setIfInBounds_toArray, List.set_cons_zero, List.set_cons_succ, i64_w, i32_w]
                rfl
              refine take_ (i := 9) (N := some 85) (v := .agg (opC x Ax cx).toArray) #[true, true, true, true, true, true, true, true, true, true, false, false] rfl rfl (take_ofW HT_.out HW_.out (by kernel_rfl)) (fun _ _ _ h => h) (Or.inl ⟨by rfl, fun w' s0 => run_load_list 88 (.tmp 84) rfl (adr.add (z.toNat * 6)) rfl (opC x Ax cx) _ s0.1 Try.underlying88 rfl (by kernel_rfl)⟩) hHeld rfl ?_
              refine norm_ (a' := ?_) ?_ ?_
              rotate_left
              · show Act.put _ (some 85) _ = _
                simp only [Act.put, List.setIfInBounds_toArray, List.set_cons_zero, List.set_cons_succ, i64_w, i32_w]
                rfl
              refine one_ (i := 10) (N := some 86) #[true, true, true, true, true, true, true, true, true, true, true, false] rfl rfl (one_of HT_.out (by kernel_rfl)) (by decide) (fun Kq hKq => ?_)
              refine goes_ Try.func46 (by kernel_rfl) rfl #[.agg (opC x Ax cx).toArray] (by rfl) rfl rfl (by (try simp only [List.map_toArray, List.map_cons, List.map_nil]); first | done | rfl) ?_
              refine (batonlaw21_block.calls kx x.1 x.2.1 x.2.2.1 x.2.2.2.1 x.2.2.2.2.1 Ax cx x.2.2.2.2.2 _ wr.drew (HXP.out wr.drew (below_drew (Below.refl _ _))) HXL.out HKX1.out).mono ?_
              rintro e w5 ⟨v5, rfl, hr, hb⟩
              obtain ⟨A5, c5, e5⟩ := Kd.R_slice hr
              subst e5
              have HKD := Aside0.mk (HKW0.out.later (below_drew (Below.refl _ _)))
              have HF5 := Aside0.mk (HKD.out.st.freshF (Nat.le_refl _) hr)
              have HL5 := Aside0.mk (Kd.R_reads' hr).2.1
              have HK5 := Aside0.mk (HKD.out.later hb)
              have HB5 := Aside0.mk hb
              clear hr hb
              refine ⟨_, rfl, ?_⟩
              refine hKq.out _ _ ⟨cells_below HXD.out HB5.out, (op_cells (cells_below HXD.out HB5.out)).2.1⟩ (fun hHeld => ?_)
              clear hKq Kq
              refine norm_ (a' := ?_) ?_ ?_
              rotate_left
              · show Act.put _ (some 86) _ = _
                simp only [Act.put, List.setIfInBounds_toArray, List.set_cons_zero, List.set_cons_succ, i64_w, i32_w]
                rfl
              refine one_ (i := 11) (N := some 87) #[true, true, true, true, true, true, true, true, true, true, true, true] rfl rfl (one_of HT_.out (by kernel_rfl)) (by decide) (fun Kq hKq => ?_)
              refine goes_ Try.func45 (by kernel_rfl) rfl #[.pointer (some ⟨g, 0, none⟩), .int .i64 x.2.1, .slice A5 (blkL x.2.2.1 x.2.2.2.1 x.2.2.2.2.1).length c5] (by rfl) rfl rfl (by (try simp only [List.map_toArray, List.map_cons, List.map_nil]); first | done | rfl) ?_
              refine (HK5.out.write x.2.1 HNE.out HI100.out A5 c5 _ HF5.out HL5.out).mono ?_
              rintro e w6 ⟨⟨code, rfl⟩, hx⟩
              have HKX := Aside0.mk hx
              have HXE := Aside0.mk (HXM.out w6 hx)
              clear hx
              refine ⟨_, rfl, ?_⟩
              refine hKq.out _ _ ⟨HXE.out, (op_cells HXE.out).2.1⟩ (fun hHeld => ?_)
              clear hKq Kq
              refine norm_ (a' := ?_) ?_ ?_
              rotate_left
              · show Act.put _ (some 87) _ = _
                simp only [Act.put, List.setIfInBounds_toArray, List.set_cons_zero, List.set_cons_succ, i64_w, i32_w]
                rfl
              refine done_ (done_of HT_.out (by kernel_rfl)) ?_
              clear hx0 hx1 HXE HXD HXD0 HXW HXM HXP HXF HXL HKW0 HKI HBR
              go_wp2
              obtain ⟨wv, bl, wt, down, left, hk2⟩ := HKX.out
              have HKW := Aside0.mk hk2
              have HCW := Aside0.mk (show ∀ (j : Nat) (v : Value), (opC f0 A1 c1)[j]? = some v → w6.cell? ((⟨g0, 0, none⟩ : Addr).add j) = some v from cells_of_blk ((hk2.below.block g0 HG0.out).trans HBX4.out))
              have HCX := Aside0.mk (show ∀ (j : Nat) (v : Value), (opC f0 A1 c1)[j]? = some v → w6.drew.cell? ((⟨g0, 0, none⟩ : Addr).add j) = some v from HCW.out)
              have HPK := Aside0.mk (fun (W : World) (hb : Below w6.heap.size w6 W) => Kd.F_now (Kd.F_below (HPF.out w6 hk2.below) hb))
              clear hk2
              refine start_ (n := 7) (S := fun w' => ∀ (j : Nat) (v : Value), (opC f0 A1 c1)[j]? = some v → w'.cell? ((⟨g0, 0, none⟩ : Addr).add j) = some v) (ds := []) #[false, false, false, false, false, false, false] (by kernel_rfl) rfl rfl (HCX.out) (fun hHeld => ?_); refine with_tabW Dl10_24.tab Dl10_24.bits (fun HT_ HW_ => ?_)
              refine pure_ (i := 0) (N := some 101) (v := ?_) (a' := ?_) #[true, false, false, false, false, false, false] rfl rfl (any_of HT_.out (by kernel_rfl)) (fun _ _ _ h => h) (Or.inl ⟨by rfl, ?_⟩) ?_ ?_
              rotate_left
              · intro w'
                go_simp
                with_reducible rfl
              rotate_left
              · simp only [Act.put, List.setIfInBounds_toArray, List.set_cons_zero, List.set_cons_succ, i64_w, i32_w]
                rfl
              refine pure_ (i := 1) (N := some 102) (v := ?_) (a' := ?_) #[true, true, false, false, false, false, false] rfl rfl (any_of HT_.out (by kernel_rfl)) (fun _ _ _ h => h) (Or.inl ⟨by rfl, ?_⟩) ?_ ?_
              rotate_left
              · intro w'
                go_simp
                with_reducible rfl
              rotate_left
              · simp only [Act.put, List.setIfInBounds_toArray, List.set_cons_zero, List.set_cons_succ, i64_w, i32_w]
                rfl
              refine take_ (i := 3) (N := some 104) (v := .agg (opC f0 A1 c1).toArray) #[true, true, false, true, false, false, false] rfl rfl (take_ofW HT_.out HW_.out (by kernel_rfl)) (fun _ _ _ h => h) (Or.inl ⟨by rfl, fun w' s0 => run_load_list 88 (.tmp 4) rfl ⟨g0, 0, none⟩ rfl (opC f0 A1 c1) _ s0 Try.underlying88 rfl (by kernel_rfl)⟩) hHeld rfl ?_
              refine norm_ (a' := ?_) ?_ ?_
              rotate_left
              · show Act.put _ (some 104) _ = _
                simp only [Act.put, List.setIfInBounds_toArray, List.set_cons_zero, List.set_cons_succ, i64_w, i32_w]
                rfl
              refine one_ (i := 2) (N := some 103) #[true, true, true, true, false, false, false] rfl rfl (one_of HT_.out (by kernel_rfl)) (by decide) (fun Kq hKq => ?_)
              refine goes_ Try.func50 (by kernel_rfl) rfl #[.pointer (some ⟨g, 0, none⟩), .int .i64 zn] (by rfl) rfl rfl (by (try simp only [List.map_toArray, List.map_cons, List.map_nil]); first | done | rfl) ?_
              refine ((HKW.out.later (below_drew (Below.refl _ _))).lies zn HZN.out).mono ?_
              rintro e w16 ⟨v16, rfl, hr, hb⟩
              obtain ⟨A16, c16, e16, hl16, hC16⟩ := Kd.R_reads hr
              subst e16
              have HC16 := Aside0.mk hC16
              have HL16 := Aside0.mk hl16
              have HB16 := Aside0.mk (below_step (below_drew (Below.refl w6.heap.size w6)) hb)
              clear hr hb hC16 hl16
              refine ⟨_, rfl, ?_⟩
              refine hKq.out _ _ (cells_below HCW.out HB16.out) (fun hHeld => ?_)
              clear hKq Kq
              refine norm_ (a' := ?_) ?_ ?_
              rotate_left
              · show Act.put _ (some 103) _ = _
                simp only [Act.put, List.setIfInBounds_toArray, List.set_cons_zero, List.set_cons_succ, i64_w, i32_w]
                rfl
              refine one_ (i := 4) (N := some 105) #[true, true, true, true, true, false, false] rfl rfl (one_of HT_.out (by kernel_rfl)) (by decide) (fun Kq hKq => ?_)
              refine goes_ Try.func46 (by kernel_rfl) rfl #[.agg (opC f0 A1 c1).toArray] (by rfl) rfl rfl (by (try simp only [List.map_toArray, List.map_cons, List.map_nil]); first | done | rfl) ?_
              refine (batonlaw21_block.calls kb f0.1 f0.2.1 f0.2.2.1 f0.2.2.2.1 f0.2.2.2.2.1 A1 c1 f0.2.2.2.2.2 _ w16 (HPK.out w16 HB16.out) HPC0.out HKB.out).mono ?_
              rintro e w17 ⟨v17, rfl, hr, hb⟩
              obtain ⟨A17, c17, e17, hl17, hC17⟩ := Kd.R_reads hr
              subst e17
              have HC17 := Aside0.mk hC17
              have HL17 := Aside0.mk hl17
              have HC617 := Aside0.mk (Kd.C_below HC16.out hb)
              have HB17 := Aside0.mk (below_step HB16.out hb)
              clear hr hb hC17 hl17
              refine ⟨_, rfl, ?_⟩
              refine hKq.out _ _ (cells_below HCW.out HB17.out) (fun hHeld => ?_)
              clear hKq Kq
              refine norm_ (a' := ?_) ?_ ?_
              rotate_left
              · show Act.put _ (some 105) _ = _
                simp only [Act.put, List.setIfInBounds_toArray, List.set_cons_zero, List.set_cons_succ, i64_w, i32_w]
                rfl
              refine one_ (i := 5) (N := some 106) #[true, true, true, true, true, true, false] rfl rfl (one_of HT_.out (by kernel_rfl)) (by decide) (fun Kq hKq => ?_)
              refine goes_ Try.func19 (by kernel_rfl) rfl #[.slice A16 b0.length c16, .slice A17 b0.length c17] (by rfl) rfl rfl (by (try simp only [List.map_toArray, List.map_cons, List.map_nil]); first | done | rfl) ?_
              refine (batonref01_Same.calls ks A16 c16 b0 A17 c17 b0 true w17 HC617.out HL16.out HC17.out HL17.out HKS.out).mono ?_
              rintro e w18 ⟨rfl, hd⟩
              have HB18 := Aside0.mk (below_step HB17.out (below_of_drawn hd))
              clear hd
              refine ⟨_, rfl, ?_⟩
              refine hKq.out _ _ (cells_below HCW.out HB18.out) (fun hHeld => ?_)
              clear hKq Kq
              refine norm_ (a' := ?_) ?_ ?_
              rotate_left
              · show Act.put _ (some 106) _ = _
                simp only [Act.put, List.setIfInBounds_toArray, List.set_cons_zero, List.set_cons_succ, i64_w, i32_w]
                rfl
              refine pure_ (i := 6) (N := some 107) (v := ?_) (a' := ?_) #[true, true, true, true, true, true, true] rfl rfl (any_of HT_.out (by kernel_rfl)) (fun _ _ _ h => h) (Or.inl ⟨by rfl, ?_⟩) ?_ ?_
              rotate_left
              · intro w'
                go_simp
                with_reducible rfl
              rotate_left
              · simp only [Act.put, List.setIfInBounds_toArray, List.set_cons_zero, List.set_cons_succ, i64_w, i32_w]
                rfl
              refine done_ (done_of HT_.out (by kernel_rfl)) ?_
              go_wp2
              go_roundg k1
              case measure => have := HK.out.2.1; omega
              case rel => exact ⟨wrap64 (z + 1), i + 1, rfl, ⟨HWR.out, by have := HK.out.2.1; omega, by have := HI.out; omega⟩, ⟨wv, bl, wt, down, left, HKW.out.later HB18.out⟩⟩
          · have hb0 : (x.1 == 0) = false := beq_eq_false_iff_ne.mpr hk0
            by_cases hk1 : x.1 = 1
            · have hb1 : (x.1 == 1) = true := beq_iff_eq.mpr hk1
              clear hk0 hk1 hx1 hx5
              go_wp2_with (first
                | (go_at_call 47; refine (HKW0.out.sync HI100.out).mono ?_; rintro e w6 ⟨⟨code, rfl⟩, hx⟩; have HKX := Aside0.mk hx; clear hx))
              clear hx0 HXD HXD0 HXW HXM HXP HXF HXL HKW0 HKI HBR
              obtain ⟨wv, bl, wt, down, left, hk2⟩ := HKX.out
              have HKW := Aside0.mk hk2
              have HCW := Aside0.mk (show ∀ (j : Nat) (v : Value), (opC f0 A1 c1)[j]? = some v → w6.cell? ((⟨g0, 0, none⟩ : Addr).add j) = some v from cells_of_blk ((hk2.below.block g0 HG0.out).trans HBX4.out))
              have HCX := Aside0.mk (show ∀ (j : Nat) (v : Value), (opC f0 A1 c1)[j]? = some v → w6.drew.cell? ((⟨g0, 0, none⟩ : Addr).add j) = some v from HCW.out)
              have HPK := Aside0.mk (fun (W : World) (hb : Below w6.heap.size w6 W) => Kd.F_now (Kd.F_below (HPF.out w6 hk2.below) hb))
              clear hk2
              refine start_ (n := 7) (S := fun w' => ∀ (j : Nat) (v : Value), (opC f0 A1 c1)[j]? = some v → w'.cell? ((⟨g0, 0, none⟩ : Addr).add j) = some v) (ds := []) #[false, false, false, false, false, false, false] (by kernel_rfl) rfl rfl (HCX.out) (fun hHeld => ?_); refine with_tabW Dl10_24.tab Dl10_24.bits (fun HT_ HW_ => ?_)
              refine pure_ (i := 0) (N := some 101) (v := ?_) (a' := ?_) #[true, false, false, false, false, false, false] rfl rfl (any_of HT_.out (by kernel_rfl)) (fun _ _ _ h => h) (Or.inl ⟨by rfl, ?_⟩) ?_ ?_
              rotate_left
              · intro w'
                go_simp
                with_reducible rfl
              rotate_left
              · simp only [Act.put, List.setIfInBounds_toArray, List.set_cons_zero, List.set_cons_succ, i64_w, i32_w]
                rfl
              refine pure_ (i := 1) (N := some 102) (v := ?_) (a' := ?_) #[true, true, false, false, false, false, false] rfl rfl (any_of HT_.out (by kernel_rfl)) (fun _ _ _ h => h) (Or.inl ⟨by rfl, ?_⟩) ?_ ?_
              rotate_left
              · intro w'
                go_simp
                with_reducible rfl
              rotate_left
              · simp only [Act.put, List.setIfInBounds_toArray, List.set_cons_zero, List.set_cons_succ, i64_w, i32_w]
                rfl
              refine take_ (i := 3) (N := some 104) (v := .agg (opC f0 A1 c1).toArray) #[true, true, false, true, false, false, false] rfl rfl (take_ofW HT_.out HW_.out (by kernel_rfl)) (fun _ _ _ h => h) (Or.inl ⟨by rfl, fun w' s0 => run_load_list 88 (.tmp 4) rfl ⟨g0, 0, none⟩ rfl (opC f0 A1 c1) _ s0 Try.underlying88 rfl (by kernel_rfl)⟩) hHeld rfl ?_
              refine norm_ (a' := ?_) ?_ ?_
              rotate_left
              · show Act.put _ (some 104) _ = _
                simp only [Act.put, List.setIfInBounds_toArray, List.set_cons_zero, List.set_cons_succ, i64_w, i32_w]
                rfl
              refine one_ (i := 2) (N := some 103) #[true, true, true, true, false, false, false] rfl rfl (one_of HT_.out (by kernel_rfl)) (by decide) (fun Kq hKq => ?_)
              refine goes_ Try.func50 (by kernel_rfl) rfl #[.pointer (some ⟨g, 0, none⟩), .int .i64 zn] (by rfl) rfl rfl (by (try simp only [List.map_toArray, List.map_cons, List.map_nil]); first | done | rfl) ?_
              refine ((HKW.out.later (below_drew (Below.refl _ _))).lies zn HZN.out).mono ?_
              rintro e w16 ⟨v16, rfl, hr, hb⟩
              obtain ⟨A16, c16, e16, hl16, hC16⟩ := Kd.R_reads hr
              subst e16
              have HC16 := Aside0.mk hC16
              have HL16 := Aside0.mk hl16
              have HB16 := Aside0.mk (below_step (below_drew (Below.refl w6.heap.size w6)) hb)
              clear hr hb hC16 hl16
              refine ⟨_, rfl, ?_⟩
              refine hKq.out _ _ (cells_below HCW.out HB16.out) (fun hHeld => ?_)
              clear hKq Kq
              refine norm_ (a' := ?_) ?_ ?_
              rotate_left
              · show Act.put _ (some 103) _ = _
                simp only [Act.put, List.setIfInBounds_toArray, List.set_cons_zero, List.set_cons_succ, i64_w, i32_w]
                rfl
              refine one_ (i := 4) (N := some 105) #[true, true, true, true, true, false, false] rfl rfl (one_of HT_.out (by kernel_rfl)) (by decide) (fun Kq hKq => ?_)
              refine goes_ Try.func46 (by kernel_rfl) rfl #[.agg (opC f0 A1 c1).toArray] (by rfl) rfl rfl (by (try simp only [List.map_toArray, List.map_cons, List.map_nil]); first | done | rfl) ?_
              refine (batonlaw21_block.calls kb f0.1 f0.2.1 f0.2.2.1 f0.2.2.2.1 f0.2.2.2.2.1 A1 c1 f0.2.2.2.2.2 _ w16 (HPK.out w16 HB16.out) HPC0.out HKB.out).mono ?_
              rintro e w17 ⟨v17, rfl, hr, hb⟩
              obtain ⟨A17, c17, e17, hl17, hC17⟩ := Kd.R_reads hr
              subst e17
              have HC17 := Aside0.mk hC17
              have HL17 := Aside0.mk hl17
              have HC617 := Aside0.mk (Kd.C_below HC16.out hb)
              have HB17 := Aside0.mk (below_step HB16.out hb)
              clear hr hb hC17 hl17
              refine ⟨_, rfl, ?_⟩
              refine hKq.out _ _ (cells_below HCW.out HB17.out) (fun hHeld => ?_)
              clear hKq Kq
              refine norm_ (a' := ?_) ?_ ?_
              rotate_left
              · show Act.put _ (some 105) _ = _
                simp only [Act.put, List.setIfInBounds_toArray, List.set_cons_zero, List.set_cons_succ, i64_w, i32_w]
                rfl
              refine one_ (i := 5) (N := some 106) #[true, true, true, true, true, true, false] rfl rfl (one_of HT_.out (by kernel_rfl)) (by decide) (fun Kq hKq => ?_)
              refine goes_ Try.func19 (by kernel_rfl) rfl #[.slice A16 b0.length c16, .slice A17 b0.length c17] (by rfl) rfl rfl (by (try simp only [List.map_toArray, List.map_cons, List.map_nil]); first | done | rfl) ?_
              refine (batonref01_Same.calls ks A16 c16 b0 A17 c17 b0 true w17 HC617.out HL16.out HC17.out HL17.out HKS.out).mono ?_
              rintro e w18 ⟨rfl, hd⟩
              have HB18 := Aside0.mk (below_step HB17.out (below_of_drawn hd))
              clear hd
              refine ⟨_, rfl, ?_⟩
              refine hKq.out _ _ (cells_below HCW.out HB18.out) (fun hHeld => ?_)
              clear hKq Kq
              refine norm_ (a' := ?_) ?_ ?_
              rotate_left
              · show Act.put _ (some 106) _ = _
                simp only [Act.put, List.setIfInBounds_toArray, List.set_cons_zero, List.set_cons_succ, i64_w, i32_w]
                rfl
              refine pure_ (i := 6) (N := some 107) (v := ?_) (a' := ?_) #[true, true, true, true, true, true, true] rfl rfl (any_of HT_.out (by kernel_rfl)) (fun _ _ _ h => h) (Or.inl ⟨by rfl, ?_⟩) ?_ ?_
              rotate_left
              · intro w'
                go_simp
                with_reducible rfl
              rotate_left
              · simp only [Act.put, List.setIfInBounds_toArray, List.set_cons_zero, List.set_cons_succ, i64_w, i32_w]
                rfl
              refine done_ (done_of HT_.out (by kernel_rfl)) ?_
              go_wp2
              go_roundg k1
              case measure => have := HK.out.2.1; omega
              case rel => exact ⟨wrap64 (z + 1), i + 1, rfl, ⟨HWR.out, by have := HK.out.2.1; omega, by have := HI.out; omega⟩, ⟨wv, bl, wt, down, left, HKW.out.later HB18.out⟩⟩
            · have hb1 : (x.1 == 1) = false := beq_eq_false_iff_ne.mpr hk1
              by_cases hk2 : x.1 = 2
              · have hb2 : (x.1 == 2) = true := beq_iff_eq.mpr hk2
                clear hk0 hk1 hk2 hx5
                go_wp2_with (first
                  | (go_at_call 48; refine (HKW0.out.cut x.2.1 HN1.out.2).mono ?_; rintro e w6 ⟨rfl, hx⟩; have HKX := Aside0.mk hx; clear hx))
                clear hx0 HXD HXD0 HXW HXM HXP HXF HXL HKW0 HKI HBR
                obtain ⟨wv, bl, wt, down, left, hk2⟩ := HKX.out
                have HKW := Aside0.mk hk2
                have HCW := Aside0.mk (show ∀ (j : Nat) (v : Value), (opC f0 A1 c1)[j]? = some v → w6.cell? ((⟨g0, 0, none⟩ : Addr).add j) = some v from cells_of_blk ((hk2.below.block g0 HG0.out).trans HBX4.out))
                have HCX := Aside0.mk (show ∀ (j : Nat) (v : Value), (opC f0 A1 c1)[j]? = some v → w6.drew.cell? ((⟨g0, 0, none⟩ : Addr).add j) = some v from HCW.out)
                have HPK := Aside0.mk (fun (W : World) (hb : Below w6.heap.size w6 W) => Kd.F_now (Kd.F_below (HPF.out w6 hk2.below) hb))
                clear hk2
                refine start_ (n := 7) (S := fun w' => ∀ (j : Nat) (v : Value), (opC f0 A1 c1)[j]? = some v → w'.cell? ((⟨g0, 0, none⟩ : Addr).add j) = some v) (ds := []) #[false, false, false, false, false, false, false] (by kernel_rfl) rfl rfl (HCX.out) (fun hHeld => ?_); refine with_tabW Dl10_24.tab Dl10_24.bits (fun HT_ HW_ => ?_)
                refine pure_ (i := 0) (N := some 101) (v := ?_) (a' := ?_) #[true, false, false, false, false, false, false] rfl rfl (any_of HT_.out (by kernel_rfl)) (fun _ _ _ h => h) (Or.inl ⟨by rfl, ?_⟩) ?_ ?_
                rotate_left
                · intro w'
                  go_simp
                  with_reducible rfl
                rotate_left
                · simp only [Act.put, List.setIfInBounds_toArray, List.set_cons_zero, List.set_cons_succ, i64_w, i32_w]
                  rfl
                refine pure_ (i := 1) (N := some 102) (v := ?_) (a' := ?_) #[true, true, false, false, false, false, false] rfl rfl (any_of HT_.out (by kernel_rfl)) (fun _ _ _ h => h) (Or.inl ⟨by rfl, ?_⟩) ?_ ?_
                rotate_left
                · intro w'
                  go_simp
                  with_reducible rfl
                rotate_left
                · simp only [Act.put, List.setIfInBounds_toArray, List.set_cons_zero, List.set_cons_succ, i64_w, i32_w]
                  rfl
                refine take_ (i := 3) (N := some 104) (v := .agg (opC f0 A1 c1).toArray) #[true, true, false, true, false, false, false] rfl rfl (take_ofW HT_.out HW_.out (by kernel_rfl)) (fun _ _ _ h => h) (Or.inl ⟨by rfl, fun w' s0 => run_load_list 88 (.tmp 4) rfl ⟨g0, 0, none⟩ rfl (opC f0 A1 c1) _ s0 Try.underlying88 rfl (by kernel_rfl)⟩) hHeld rfl ?_
                refine norm_ (a' := ?_) ?_ ?_
                rotate_left
                · show Act.put _ (some 104) _ = _
                  simp only [Act.put, List.setIfInBounds_toArray, List.set_cons_zero, List.set_cons_succ, i64_w, i32_w]
                  rfl
                refine one_ (i := 2) (N := some 103) #[true, true, true, true, false, false, false] rfl rfl (one_of HT_.out (by kernel_rfl)) (by decide) (fun Kq hKq => ?_)
                refine goes_ Try.func50 (by kernel_rfl) rfl #[.pointer (some ⟨g, 0, none⟩), .int .i64 zn] (by rfl) rfl rfl (by (try simp only [List.map_toArray, List.map_cons, List.map_nil]); first | done | rfl) ?_
                refine ((HKW.out.later (below_drew (Below.refl _ _))).lies zn HZN.out).mono ?_
                rintro e w16 ⟨v16, rfl, hr, hb⟩
                obtain ⟨A16, c16, e16, hl16, hC16⟩ := Kd.R_reads hr
                subst e16
                have HC16 := Aside0.mk hC16
                have HL16 := Aside0.mk hl16
                have HB16 := Aside0.mk (below_step (below_drew (Below.refl w6.heap.size w6)) hb)
                clear hr hb hC16 hl16
                refine ⟨_, rfl, ?_⟩
                refine hKq.out _ _ (cells_below HCW.out HB16.out) (fun hHeld => ?_)
                clear hKq Kq
                refine norm_ (a' := ?_) ?_ ?_
                rotate_left
                · show Act.put _ (some 103) _ = _
                  simp only [Act.put, List.setIfInBounds_toArray, List.set_cons_zero, List.set_cons_succ, i64_w, i32_w]
                  rfl
                refine one_ (i := 4) (N := some 105) #[true, true, true, true, true, false, false] rfl rfl (one_of HT_.out (by kernel_rfl)) (by decide) (fun Kq hKq => ?_)
                refine goes_ Try.func46 (by kernel_rfl) rfl #[.agg (opC f0 A1 c1).toArray] (by rfl) rfl rfl (by (try simp only [List.map_toArray, List.map_cons, List.map_nil]); first | done | rfl) ?_
                refine (batonlaw21_block.calls kb f0.1 f0.2.1 f0.2.2.1 f0.2.2.2.1 f0.2.2.2.2.1 A1 c1 f0.2.2.2.2.2 _ w16 (HPK.out w16 HB16.out) HPC0.out HKB.out).mono ?_
                rintro e w17 ⟨v17, rfl, hr, hb⟩
                obtain ⟨A17, c17, e17, hl17, hC17⟩ := Kd.R_reads hr
                subst e17
                have HC17 := Aside0.mk hC17
                have HL17 := Aside0.mk hl17
                have HC617 := Aside0.mk (Kd.C_below HC16.out hb)
                have HB17 := Aside0.mk (below_step HB16.out hb)
                clear hr hb hC17 hl17
                refine ⟨_, rfl, ?_⟩
                refine hKq.out _ _ (cells_below HCW.out HB17.out) (fun hHeld => ?_)
                clear hKq Kq
                refine norm_ (a' := ?_) ?_ ?_
                rotate_left
                · show Act.put _ (some 105) _ = _
                  simp only [Act.put, List.setIfInBounds_toArray, List.set_cons_zero, List.set_cons_succ, i64_w, i32_w]
                  rfl
                refine one_ (i := 5) (N := some 106) #[true, true, true, true, true, true, false] rfl rfl (one_of HT_.out (by kernel_rfl)) (by decide) (fun Kq hKq => ?_)
                refine goes_ Try.func19 (by kernel_rfl) rfl #[.slice A16 b0.length c16, .slice A17 b0.length c17] (by rfl) rfl rfl (by (try simp only [List.map_toArray, List.map_cons, List.map_nil]); first | done | rfl) ?_
                refine (batonref01_Same.calls ks A16 c16 b0 A17 c17 b0 true w17 HC617.out HL16.out HC17.out HL17.out HKS.out).mono ?_
                rintro e w18 ⟨rfl, hd⟩
                have HB18 := Aside0.mk (below_step HB17.out (below_of_drawn hd))
                clear hd
                refine ⟨_, rfl, ?_⟩
                refine hKq.out _ _ (cells_below HCW.out HB18.out) (fun hHeld => ?_)
                clear hKq Kq
                refine norm_ (a' := ?_) ?_ ?_
                rotate_left
                · show Act.put _ (some 106) _ = _
                  simp only [Act.put, List.setIfInBounds_toArray, List.set_cons_zero, List.set_cons_succ, i64_w, i32_w]
                  rfl
                refine pure_ (i := 6) (N := some 107) (v := ?_) (a' := ?_) #[true, true, true, true, true, true, true] rfl rfl (any_of HT_.out (by kernel_rfl)) (fun _ _ _ h => h) (Or.inl ⟨by rfl, ?_⟩) ?_ ?_
                rotate_left
                · intro w'
                  go_simp
                  with_reducible rfl
                rotate_left
                · simp only [Act.put, List.setIfInBounds_toArray, List.set_cons_zero, List.set_cons_succ, i64_w, i32_w]
                  rfl
                refine done_ (done_of HT_.out (by kernel_rfl)) ?_
                go_wp2
                go_roundg k1
                case measure => have := HK.out.2.1; omega
                case rel => exact ⟨wrap64 (z + 1), i + 1, rfl, ⟨HWR.out, by have := HK.out.2.1; omega, by have := HI.out; omega⟩, ⟨wv, bl, wt, down, left, HKW.out.later HB18.out⟩⟩
              · have hb2 : (x.1 == 2) = false := beq_eq_false_iff_ne.mpr hk2
                clear hk0 hk1 hk2 hx1
                go_wp2_with (first
                  | (go_at_call 49; refine (HKW0.out.crash HI100.out Ax cx _ HXF.out HXL.out).mono ?_; rintro e w6 ⟨rfl, hx⟩; have HKX := Aside0.mk hx; clear hx))
                clear hx0 HXD HXD0 HXW HXM HXP HXF HXL HKW0 HKI HBR
                obtain ⟨wv, bl, wt, down, left, hk2⟩ := HKX.out
                have HKW := Aside0.mk hk2
                have HCW := Aside0.mk (show ∀ (j : Nat) (v : Value), (opC f0 A1 c1)[j]? = some v → w6.cell? ((⟨g0, 0, none⟩ : Addr).add j) = some v from cells_of_blk ((hk2.below.block g0 HG0.out).trans HBX4.out))
                have HCX := Aside0.mk (show ∀ (j : Nat) (v : Value), (opC f0 A1 c1)[j]? = some v → w6.drew.cell? ((⟨g0, 0, none⟩ : Addr).add j) = some v from HCW.out)
                have HPK := Aside0.mk (fun (W : World) (hb : Below w6.heap.size w6 W) => Kd.F_now (Kd.F_below (HPF.out w6 hk2.below) hb))
                clear hk2
                refine start_ (n := 7) (S := fun w' => ∀ (j : Nat) (v : Value), (opC f0 A1 c1)[j]? = some v → w'.cell? ((⟨g0, 0, none⟩ : Addr).add j) = some v) (ds := []) #[false, false, false, false, false, false, false] (by kernel_rfl) rfl rfl (HCX.out) (fun hHeld => ?_); refine with_tabW Dl10_24.tab Dl10_24.bits (fun HT_ HW_ => ?_)
                refine pure_ (i := 0) (N := some 101) (v := ?_) (a' := ?_) #[true, false, false, false, false, false, false] rfl rfl (any_of HT_.out (by kernel_rfl)) (fun _ _ _ h => h) (Or.inl ⟨by rfl, ?_⟩) ?_ ?_
                rotate_left
                · intro w'
                  go_simp
                  with_reducible rfl
                rotate_left
                · simp only [Act.put, List.setIfInBounds_toArray, List.set_cons_zero, List.set_cons_succ, i64_w, i32_w]
                  rfl
                refine pure_ (i := 1) (N := some 102) (v := ?_) (a' := ?_) #[true, true, false, false, false, false, false] rfl rfl (any_of HT_.out (by kernel_rfl)) (fun _ _ _ h => h) (Or.inl ⟨by rfl, ?_⟩) ?_ ?_
                rotate_left
                · intro w'
                  go_simp
                  with_reducible rfl
                rotate_left
                · simp only [Act.put, List.setIfInBounds_toArray, List.set_cons_zero, List.set_cons_succ, i64_w, i32_w]
                  rfl
                refine take_ (i := 3) (N := some 104) (v := .agg (opC f0 A1 c1).toArray) #[true, true, false, true, false, false, false] rfl rfl (take_ofW HT_.out HW_.out (by kernel_rfl)) (fun _ _ _ h => h) (Or.inl ⟨by rfl, fun w' s0 => run_load_list 88 (.tmp 4) rfl ⟨g0, 0, none⟩ rfl (opC f0 A1 c1) _ s0 Try.underlying88 rfl (by kernel_rfl)⟩) hHeld rfl ?_
                refine norm_ (a' := ?_) ?_ ?_
                rotate_left
                · show Act.put _ (some 104) _ = _
                  simp only [Act.put, List.setIfInBounds_toArray, List.set_cons_zero, List.set_cons_succ, i64_w, i32_w]
                  rfl
                refine one_ (i := 2) (N := some 103) #[true, true, true, true, false, false, false] rfl rfl (one_of HT_.out (by kernel_rfl)) (by decide) (fun Kq hKq => ?_)
                refine goes_ Try.func50 (by kernel_rfl) rfl #[.pointer (some ⟨g, 0, none⟩), .int .i64 zn] (by rfl) rfl rfl (by (try simp only [List.map_toArray, List.map_cons, List.map_nil]); first | done | rfl) ?_
                refine ((HKW.out.later (below_drew (Below.refl _ _))).lies zn HZN.out).mono ?_
                rintro e w16 ⟨v16, rfl, hr, hb⟩
                obtain ⟨A16, c16, e16, hl16, hC16⟩ := Kd.R_reads hr
                subst e16
                have HC16 := Aside0.mk hC16
                have HL16 := Aside0.mk hl16
                have HB16 := Aside0.mk (below_step (below_drew (Below.refl w6.heap.size w6)) hb)
                clear hr hb hC16 hl16
                refine ⟨_, rfl, ?_⟩
                refine hKq.out _ _ (cells_below HCW.out HB16.out) (fun hHeld => ?_)
                clear hKq Kq
                refine norm_ (a' := ?_) ?_ ?_
                rotate_left
                · show Act.put _ (some 103) _ = _
                  simp only [Act.put, List.setIfInBounds_toArray, List.set_cons_zero, List.set_cons_succ, i64_w, i32_w]
                  rfl
                refine one_ (i := 4) (N := some 105) #[true, true, true, true, true, false, false] rfl rfl (one_of HT_.out (by kernel_rfl)) (by decide) (fun Kq hKq => ?_)
                refine goes_ Try.func46 (by kernel_rfl) rfl #[.agg (opC f0 A1 c1).toArray] (by rfl) rfl rfl (by (try simp only [List.map_toArray, List.map_cons, List.map_nil]); first | done | rfl) ?_
                refine (batonlaw21_block.calls kb f0.1 f0.2.1 f0.2.2.1 f0.2.2.2.1 f0.2.2.2.2.1 A1 c1 f0.2.2.2.2.2 _ w16 (HPK.out w16 HB16.out) HPC0.out HKB.out).mono ?_
                rintro e w17 ⟨v17, rfl, hr, hb⟩
                obtain ⟨A17, c17, e17, hl17, hC17⟩ := Kd.R_reads hr
                subst e17
                have HC17 := Aside0.mk hC17
                have HL17 := Aside0.mk hl17
                have HC617 := Aside0.mk (Kd.C_below HC16.out hb)
                have HB17 := Aside0.mk (below_step HB16.out hb)
                clear hr hb hC17 hl17
                refine ⟨_, rfl, ?_⟩
                refine hKq.out _ _ (cells_below HCW.out HB17.out) (fun hHeld => ?_)
                clear hKq Kq
                refine norm_ (a' := ?_) ?_ ?_
                rotate_left
                · show Act.put _ (some 105) _ = _
                  simp only [Act.put, List.setIfInBounds_toArray, List.set_cons_zero, List.set_cons_succ, i64_w, i32_w]
                  rfl
                refine one_ (i := 5) (N := some 106) #[true, true, true, true, true, true, false] rfl rfl (one_of HT_.out (by kernel_rfl)) (by decide) (fun Kq hKq => ?_)
                refine goes_ Try.func19 (by kernel_rfl) rfl #[.slice A16 b0.length c16, .slice A17 b0.length c17] (by rfl) rfl rfl (by (try simp only [List.map_toArray, List.map_cons, List.map_nil]); first | done | rfl) ?_
                refine (batonref01_Same.calls ks A16 c16 b0 A17 c17 b0 true w17 HC617.out HL16.out HC17.out HL17.out HKS.out).mono ?_
                rintro e w18 ⟨rfl, hd⟩
                have HB18 := Aside0.mk (below_step HB17.out (below_of_drawn hd))
                clear hd
                refine ⟨_, rfl, ?_⟩
                refine hKq.out _ _ (cells_below HCW.out HB18.out) (fun hHeld => ?_)
                clear hKq Kq
                refine norm_ (a' := ?_) ?_ ?_
                rotate_left
                · show Act.put _ (some 106) _ = _
                  simp only [Act.put, List.setIfInBounds_toArray, List.set_cons_zero, List.set_cons_succ, i64_w, i32_w]
                  rfl
                refine pure_ (i := 6) (N := some 107) (v := ?_) (a' := ?_) #[true, true, true, true, true, true, true] rfl rfl (any_of HT_.out (by kernel_rfl)) (fun _ _ _ h => h) (Or.inl ⟨by rfl, ?_⟩) ?_ ?_
                rotate_left
                · intro w'
                  go_simp
                  with_reducible rfl
                rotate_left
                · simp only [Act.put, List.setIfInBounds_toArray, List.set_cons_zero, List.set_cons_succ, i64_w, i32_w]
                  rfl
                refine done_ (done_of HT_.out (by kernel_rfl)) ?_
                go_wp2
                go_roundg k1
                case measure => have := HK.out.2.1; omega
                case rel => exact ⟨wrap64 (z + 1), i + 1, rfl, ⟨HWR.out, by have := HK.out.2.1; omega, by have := HI.out; omega⟩, ⟨wv, bl, wt, down, left, HKW.out.later HB18.out⟩⟩
        · have hib : decide (z < (l.length : Int)) = false := decide_eq_false (by omega)
          have HBR := Aside0.mk (HBW.out _ wr HKI.out)
          clear hz hk hil hi
          go_wp2
          go_ret
          exact ⟨rfl, HBR.out⟩

end Go.Proofs.Ytdbfclfglpbpmaa.Dsk
