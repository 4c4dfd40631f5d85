/- The page's example of a disk. No condition. -/
import Derived.Test.YtdbfclfglpbpmaaDskH
namespace Go.Proofs.Ytdbfclfglpbpmaa.Dsk
open Go.AnyFacts Go.Proofs.Ytdbfclfglpbpmaa.Sha Go.RowKit Go.Proofs.YtdbfclfglpbpmaaW.Hand Go.Proofs.YtdbfclfglpbpmaaW.PrintWords Go.Proofs.YtdbfclfglpbpmaaW.PrintLast Go.Proofs.YtdbfclfglpbpmaaW.PrintMore Go.Proofs.Ytdbfclfglpbpmaa.PF21 Go.Proofs.Ytdbfclfglpbpmaa.Base Go.Proofs.Ytdbfclfglpbpmaa.LF21
attribute [local go_sem] max2_int min2_int max_two min_two max_three min_three max_four min_four
set_option linter.unusedVariables false
set_option linter.unusedSimpArgs false

section
variable {B M0 g : Nat} {bv dv wv : Value} {bl : List (List Int)} {wt : List S154} {bad : List Int} {down : Bool} {left : Int} {w W w1 : World}
/-- Another row, younger than the disk was when nothing waited, is written. -/
theorem DSt.high (s : DSt B M0 g bv dv (.slice none 0 0) bl [] bad down left w) {k : Nat} (hk : M0 ≤ k) (hg : w.grownBy w1 (some k)) : DSt B M0 g bv dv (.slice none 0 0) bl [] bad down left w1 := by
  have hgB := s.gB
  refine ⟨blk_grown s.blk hg (fun e => by obtain rfl := Option.some.inj e; omega), Kd.S_grown s.blocks hg (fun j hj e => by obtain rfl := Option.some.inj e; have := hj.2.1; omega), Kd.R_nil _ _ _ _ _, Kd.R_grown s.badr hg (fun j hj e => by obtain rfl := Option.some.inj e; have := hj.1; omega), hgB.1, hgB.2.1, Nat.le_trans hgB.2.2 hg.size⟩
theorem DSt.freshF0 (s : DSt B M0 g bv dv (.slice none 0 0) bl wt bad down left w) {k : IntKind} {e : Nat} {ok : Nat → Prop} {A : Option Addr} {n c : Nat} {xs : List Int} (hR : Kd.R (Kd.int k) e W M0 ok (.slice A n c) xs) : Kd.F (Kd.int k) W (fun k => ¬ Mut B M0 g dv (.slice none 0 0) k) A n xs := by
  refine Kd.F_mono (Kd.R_F (Kd.R_bound hR)) (fun k hk hm => ?_)
  have h1 := hk.2.1
  have hg := s.gB
  rcases hm with rfl | h | h
  · omega
  · have := h.2.1
    omega
  · simp [Value.ownBlock] at h
end
set_option maxHeartbeats 8000000 in
set_option maxRecDepth 100000 in
theorem awake_calls (w : World) : Calls Try.prog 43 #[] w fun e w' => e = .returned (.bool true) ∧ Below w.heap.size w w' := by
  obtain ⟨kn, hkn⟩ := New_ev 1 [] (by decide) (by decide) (by decide)
  have HN := Aside0.mk hkn
  have hpt := ptrW_true
  have hpf := ptrW_false
  clear hkn
  go_enter Try.func43, Try.ntmps43
  go_wp2_with (first
    | (go_at_call 44; refine (disk_New.calls kn 1 none 0 [] _ _ _ _ _ _ _ _ (Kd.C_nil _ _) (Nat.le_refl _) HN.out).mono ?_; rintro e w1 ⟨v1, v2, v3, g, ⟨rfl, hS, hW, hB, hblk, hg, hb⟩⟩; have HS1 := Aside0.mk (made hS hW.out.1 hB (hblk rfl) hg); have HB1 := Aside0.mk hb; clear hS hW hB hblk hg hb)
    | ((with_reducible refine gate_dst (N := 16) rfl ?_); refine Kd.R_make (Kd.int .u8) _ 5 rfl (N := 16) rfl 22 _ _ rfl 256 rfl rfl Try.underlying22 (.int .u8 0) 1 info5 rfl (by decide) (by omega) 0 (ok := fun _ => True) (okp := fun _ => True) rfl (fun _ hk => hk) trivial (by omega) (by omega) (Below.refl _ _) (Nat.le_refl _) ?_; intro vm wm hom hbm _ _; have HOM := Aside0.mk hom; have HBM := Aside0.mk hbm; clear hom hbm))
  clear hpt hpf HN
  have HS2 := Aside0.mk (HS1.out.below HBM.out)
  have HB2 := Aside0.mk (below_step HB1.out HBM.out)
  obtain ⟨Am, cm, em⟩ := Kd.R_slice HOM.out
  subst em
  have HOM2 : Aside0 (Kd.R (Kd.int .u8) 5 wm w1.heap.size (fun _ => True) (.slice Am 256 cm) (List.replicate 0 7 ++ List.replicate (256 - 0) 0)) := ⟨HOM.out⟩
  obtain ⟨gm, rfl⟩ : ∃ gm, Am = some ⟨gm, 0, none⟩ := by
    obtain ⟨gm, cap, e, _⟩ := Kd.R_form HOM2.out (by decide)
    injection e with e
    exact ⟨gm, e⟩
  clear HOM HBM HB1
  go_loopg [4] 257 (fun kq v4 wr => ∃ (z : Int) (i : Nat), v4 = .int .i64 z ∧ Aside0 (z = (i : Int) ∧ i + kq = 257 ∧ i ≤ 256) ∧ Aside0 (Kd.R (Kd.int .u8) 5 wr w1.heap.size (fun _ => True) (.slice (some ⟨gm, 0, none⟩) 256 cm) (List.replicate i 7 ++ List.replicate (256 - i) 0)) ∧ Aside0 (DSt w.heap.size w1.heap.size g v1 v3 (.slice none 0 0) (List.replicate 1 zeros) [] [] false (-1) wr) ∧ Aside0 (Below w.heap.size w wr))
  case atStart => exact ⟨0, 0, rfl, ⟨rfl, by decide, by decide⟩, HOM2, HS2, HB2⟩
  case round =>
    obtain ⟨z, i, rfl, HK, HR, HSR, HBR⟩ := hrel
    obtain ⟨hz, hk, hil⟩ := HK.out
    clear HOM2 HS2 HB2
    cases gk with
    | zero => omega
    | succ k1 =>
      by_cases hi : i < 256
      · have hib : decide (z < 256) = true := decide_eq_true (by omega)
        have hl : (List.replicate i (7 : Int) ++ List.replicate (256 - i) (0 : Int)).length = 256 := by simp [-List.reduceReplicate]; omega
        have hR := HR.out
        have p1 : (0 : Int) ≤ z := by omega
        have q1 : z < ((256 : Nat) : Int) := by omega
        have hR2 : Kd.R (Kd.int .u8) 5 wr w1.heap.size (fun _ => True) (.slice (some ⟨gm, 0, none⟩) (List.replicate i (7 : Int) ++ List.replicate (256 - i) (0 : Int)).length cm) (List.replicate i 7 ++ List.replicate (256 - i) 0) := by rw [hl]; exact hR
        obtain ⟨hx9_0, hf9_0⟩ := Kd.R_celln 0 hR2 z p1 (by rw [hl]; exact q1)
        have HP11 := Kd.R_putg hR2 z (7 : Int)
        have hzi : z.toNat = i := by omega
        rw [hl, hzi, rep_set 256 i 7 0 hi, ← hzi] at HP11
        have HP := Aside0.mk HP11.1
        have HG := Aside0.mk HP11.2
        have hwr : wrap64 (z + 1) = ((i + 1 : Nat) : Int) := by rw [w64 (by omega) (by omega)]; omega
        have HWR := Aside0.mk hwr
        have HI := Aside0.mk hi
        have HZI := Aside0.mk hzi
        have HGM := Aside0.mk (show w1.heap.size ≤ gm from Kd.R_base hR gm rfl)
        replace p1 := eq_true p1
        have q2 := eq_true (show z < (256 : Int) by omega)
        (try rw [Nat.mul_one, Nat.add_zero] at hx9_0 hf9_0)
        clear hR hR2 HP11 hz hk hil hi hl hwr hzi q1
        go_wp2
        go_roundg k1
        case measure => have := HK.out.2.1; omega
        case rel =>
          refine ⟨wrap64 (z + 1), i + 1, rfl, ⟨HWR.out, by have := HK.out.2.1; omega, by have := HI.out; omega⟩, ⟨?_⟩, ⟨?_⟩, ⟨?_⟩⟩
          · have h := HP.out
            rw [HZI.out] at h ⊢
            exact h
          · exact HSR.out.high HGM.out HG.out
          · exact pw_below_grown HBR.out (some gm) (below_size HBR.out) HG.out (fun k e => by obtain rfl := Option.some.inj e; have := HSR.out.gB; have := HGM.out; omega)
      · have hib : decide (z < 256) = false := decide_eq_false (by omega)
        have hie : i = 256 := by omega
        subst hie
        have HRF : Aside0 (Kd.R (Kd.int .u8) 5 wr w1.heap.size (fun _ => True) (.slice (some ⟨gm, 0, none⟩) (blkL 7 7 false).length cm) (blkL 7 7 false)) := ⟨by
          rw [blkL_full]
          have h := HR.out
          have e : blkL 7 7 false = List.replicate 256 7 ++ List.replicate (256 - 256) 0 := by
            rw [Nat.sub_self, List.replicate_zero, List.append_nil]
            exact (List.replicate_succ' (n := 255) (a := (7 : Int))).symm
          rw [e]
          exact h⟩
        have HFF := Aside0.mk (HSR.out.freshF0 HRF.out)
        have HCL := Aside0.mk (Kd.R_reads' HRF.out).2.1
        clear hz hk hil hi HR
        have hws : wrS (List.replicate 1 zeros).length [] [] false (-1) 0 (blkL 7 7 false) = (0, [⟨0, blkL 7 7 false⟩], false, -1) := by
          unfold wrS
          rw [if_neg (by decide), if_neg (by rw [List.length_replicate, blkL_full]; decide), if_neg (by decide), if_neg (by decide)]
          rfl
        have HWS := Aside0.mk hws
        have HWF := Aside0.mk (show WFd (List.replicate 1 zeros) [⟨0, blkL 7 7 false⟩] from ⟨fun b hb => by obtain ⟨_, rfl⟩ := List.mem_replicate.1 hb; exact List.length_replicate, fun x hx => by obtain rfl := List.mem_singleton.1 hx; exact ⟨by decide, by rw [List.length_replicate]; decide, blkL_full 7 7⟩⟩)
        have HCR := Aside0.mk (show crashB [⟨0, blkL 7 7 false⟩] [3] (List.replicate 1 zeros) = [[7, 7, 7] ++ List.replicate 253 0] from rfl)
        clear hws
        go_wp2_with (first
          | (go_at_call 45; refine (HSR.out.Write 0 _ _ (blkL 7 7 false) HFF.out HCL.out (by decide) (by decide) (by decide)).mono ?_; rintro e w3 ⟨rfl, wv3, h1, h2, h3⟩; rw [HWS.out] at h1; have HS3 := Aside0.mk h1; have HB3 := Aside0.mk (HBR.out.trans h2.below); clear h1 h2 h3)
          | ((with_reducible refine gate_dst (N := 28) rfl ?_); refine Kd.R_lit (Kd.int .i64) w3.heap.size 3 rfl (N := 28) rfl (xs := ([3] : List Int)) (inner := [.int .i64 (3)]) (ok := fun _ => True) (okp := fun _ => True) ?hr (Reps.one (show Kd.M (Kd.int .i64) _ _ _ (3) [.int .i64 (3)] from rfl) (Reps.none _ _)) (fun _ hk => hk) trivial (Below.refl _ _) (below_size (Below.refl _ _)) (by simp) ?_; (case hr => first | (go_simp; done) | (go_simp; rfl)); intro vl wl hRl hbl hgl hnl; obtain ⟨Al, cl, el⟩ := Kd.R_slice hRl; subst el; have HFL := Aside0.mk ((HS3.out.freshF (Nat.le_refl _) hRl)); have HCLL := Aside0.mk (Kd.R_reads' hRl).2.1; have HS4 := Aside0.mk (HS3.out.below hbl); have HB4 := Aside0.mk (below_step HB3.out hbl); have HRL := Aside0.mk hRl; have HBL := Aside0.mk hbl; clear hRl hbl hgl hnl)
          | (go_at_call 49; refine (HS4.out.Crash Al cl [3] HFL.out HCLL.out HWF.out (by decide)).mono ?_; rintro e w5 ⟨rfl, h1, h2⟩; rw [HCR.out] at h1; have HS5 := Aside0.mk h1; have HB5 := Aside0.mk (HB4.out.trans h2.below); clear h1 h2)
          | (go_at_call 50; refine (HS5.out.Lies 0 0 rfl (by decide) (by decide)).mono ?_; rintro e w6 ⟨v6, rfl, hr, hb⟩; obtain ⟨A6, c6, e6, hl6, hC6⟩ := Kd.R_reads hr; have hl253 : ([[7, 7, 7] ++ List.replicate 253 (0 : Int)][0]).length = 256 := rfl; obtain ⟨ad, ead, hx2⟩ := Kd.at_int hC6 2 (by decide) (by decide); subst ead; obtain ⟨ad', ead', hx3⟩ := Kd.at_int hC6 3 (by decide) (by decide); obtain rfl := Option.some.inj ead'; rw [hl253] at e6; subst e6; have hx22 : w6.cell? ⟨ad.block, ad.off + 2, none⟩ = some (.int .u8 7) := hx2; have hx33 : w6.cell? ⟨ad.block, ad.off + 3, none⟩ = some (.int .u8 0) := hx3; have HB6 := Aside0.mk (below_step HB5.out hb); clear hr hb hl6 hC6 hx2 hx3 ead' hl253))
        go_ret
        exact ⟨rfl, HB6.out⟩

end Go.Proofs.Ytdbfclfglpbpmaa.Dsk
