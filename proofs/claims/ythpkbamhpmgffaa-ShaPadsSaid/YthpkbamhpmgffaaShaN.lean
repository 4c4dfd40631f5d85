/- Hand-written walks and plain lemmas of sha, hmac, keys: what each Go function comes to. No condition. -/
import Derived.Test.YthpkbamhpmgffaaShaL
namespace Go.Proofs.Ythpkbamhpmgffaa.Sha
open Go.RowKit Go.Proofs.YthpkbamhpmgffaaW.Hand Go.Proofs.YthpkbamhpmgffaaW.PrintWords Go.Proofs.YthpkbamhpmgffaaW.PrintLast Go.Proofs.YthpkbamhpmgffaaW.PrintMore Go.Proofs.Ythpkbamhpmgffaa.PF02 Go.Proofs.Ythpkbamhpmgffaa.Base Go.Proofs.Ythpkbamhpmgffaa.LF02
set_option linter.unusedVariables false
set_option linter.unusedSimpArgs false
attribute [local go_sem] max2_int min2_int max_two min_two max_three min_three max_four min_four
theorem Pad_evI (n : Int) (hn : n ≤ 2147483647) : Ev (fun k => sha_Pad.f k n) (padL n.toNat) := by
  have h := Pad_ev n.toNat (by omega)
  have e : mx ((n.toNat : Nat) : Int) 0 = mx n 0 := by unfold mx; split <;> split <;> omega
  unfold sha_Pad.f at h ⊢
  rw [e] at h
  exact h
theorem pad_calls (n : Int) (hn : n ≤ 2147483647) (w : World) : Calls Try.prog 19 #[.int .i64 n] w fun e w' => NewRow w w' e (padL n.toNat) := by
  obtain ⟨k, hk⟩ := (Pad_evI n hn).rounds
  exact (sha_Pad.calls k n _ w hk).mono fun e w' h => newRow_of h
theorem refPad_calls (n : Nat) (hn : n ≤ 2147483647) (w : World) : Calls Try.prog 20 #[.int .i64 n] w fun e w' => NewRow w w' e (padL n) := by
  obtain ⟨k, hk⟩ := (refPad_ev n (by omega)).rounds
  exact (batonref02_Pad.calls k n _ w hk).mono fun e w' h => newRow_of h
theorem refFirst_calls (w : World) : Calls Try.prog 17 #[] w fun e w' => ∃ ad c, e = .returned (.slice (some ad) 8 c) ∧ (∀ i, i < 8 → w'.cell? (ad.add i) = some (.int .u32 (rd FS (i : Nat)))) ∧ Below w.heap.size w w' := by
  refine (batonref02_First.calls FS w rfl).mono fun e w' h => ?_
  obtain ⟨v, rfl, hr, hb⟩ := h
  obtain ⟨A, c, rfl, hl, hc⟩ := Kd.R_reads hr
  obtain ⟨ad, rfl, hcs⟩ := C_cells hc (by decide)
  refine ⟨ad, c, rfl, fun i hi => hcs i _ ?_, hb⟩
  rw [List.getElem?_map, List.getElem?_eq_getElem (show i < FS.length from hi), rd_lt (show i < FS.length from hi)]
  rfl
set_option maxHeartbeats 8000000 in
set_option maxRecDepth 100000 in
theorem ShaPads_calls (n : Int) (w : World) (hn : -9223372036854775808 ≤ n ∧ n ≤ 9223372036854775807) : Calls Try.prog 4 #[.int .i64 n] w fun e w' => e = .returned (.bool true) ∧ Below w.heap.size w w' := by
  obtain ⟨hn0, hn1⟩ := hn
  by_cases hbig : n > 2147483647
  · go_enter Try.func4, Try.ntmps4
    go_wp2_with (first | (go_at_call 13; refine (awake02_calls _).mono ?_; rintro e wa ⟨rfl, hba⟩; have HBA := Aside0.mk hba; clear hba))
    go_ret
    exact ⟨rfl, HBA.out⟩
  · go_enter Try.func4, Try.ntmps4
    go_wp2_with (first | (go_at_call 13; refine (awake02_calls _).mono ?_; rintro e wa ⟨rfl, hba⟩; have HBA := Aside0.mk hba; clear hba) | (go_at_call 16; refine (First_calls _).mono ?_; rintro e w1 ⟨rfl, hb1⟩; have HB1 := Aside0.mk hb1; clear hb1) | ((with_reducible refine gate_dst (N := 3) rfl ?_); refine L_alloc rfl 23 rfl (.agg (arr .u32 (List.replicate 8 0))) 8 (by kernel_rfl) ?_; intro g3 w2 hb3 hg3 hs3 hl3; have HB3 := Aside0.mk hb3; clear hb3; have HG3 := Aside0.mk hg3; clear hg3; have HS3 := Aside0.mk hs3; clear hs3; have HL3 := Aside0.mk hl3; clear hl3) | (refine L_store rfl rfl 23 (.tmp 3) (.tmp 9) (by rfl) g3 (arr .u32 FS) (by rfl) (by rfl) (arr .u32 (List.replicate 8 0)) 23 (HB3.out) (by rfl) (by kernel_rfl) (arr_one _ _) ?_; intro w3 hbw3 huw3; have HBW3 := Aside0.mk hbw3; clear hbw3; have HUW3 := Aside0.mk huw3; clear huw3))
    have hI : Aside0 (w3.heap[g3]? = some (.cells (arr .u32 FS) 23 (0, 0)) ∧ Below w.heap.size w w3) := ⟨HBW3.out, HUW3.out.below (below_step (below_step HBA.out HB1.out) HL3.out) (by have := HG3.out; have := HBA.out.size; have := HB1.out.size; omega)⟩
    clear HBA HB1 HB3 HG3 HS3 HL3 HBW3 HUW3
    go_loopw [4] (fun i wr => ∃ k : Nat, k ≤ 8 ∧ i = .int .i64 k ∧ Aside0 (wr.heap[g3]? = some (.cells (arr .u32 FS) 23 (0, 0)) ∧ Below w.heap.size w wr)) (fun i _ => 8 - (intOf i).toNat)
    case atStart => exact ⟨0, by omega, rfl, hI⟩
    case round =>
      clear hI
      obtain ⟨k, hk, rfl, HR⟩ := hrel
      by_cases hlt : k < 8
      · have c1 : wr.cell? ⟨g3, k, none⟩ = some (.int .u32 (rd FS (k : Nat))) := by rw [blk_cell HR.out.1 k, arr_get _ _ _ hlt]
        obtain ⟨x, hx⟩ : ∃ x, x = rd FS (k : Nat) := ⟨_, rfl⟩
        rw [← hx] at c1
        have HX := Aside0.mk hx
        clear hx
        go_wp2
        go_region_with ((go_at_call 17; refine (refFirst_calls _).mono ?_; rintro e w5 ⟨ad, c5, rfl, hc5, hb5⟩; have d5 : w5.cell? (ad.add k) = some (.int .u32 x) := (by rw [HX.out]; exact hc5 k hlt); have e5 : w5.cell? ⟨g3, k, none⟩ = some (.int .u32 x) := (by rw [HX.out]; rw [blk_cell ((hb5.block g3 (blk_lt (show _ from HR.out.1))).trans (show _ from HR.out.1)) k, arr_get _ _ _ hlt]); have HB5 := Aside0.mk hb5; clear hb5 hc5))
        all_goals
          go_wp2
          go_roundw
          case rel => exact ⟨k + 1, by omega, by go_num, ⟨(HB5.out.block g3 (blk_lt (show _ from HR.out.1))).trans (show _ from HR.out.1), below_step (show Below w.heap.size w _ from below_drew HR.out.2) HB5.out⟩⟩
          case measure => simp [intOf]; omega
      · obtain rfl : k = 8 := by omega
        obtain ⟨m, hm, hmx⟩ : ∃ m : Nat, m = n.toNat ∧ (if n < 0 then 0 else n) = (m : Int) := ⟨n.toNat, rfl, by split <;> omega⟩
        have hm2 : m ≤ 2147483647 := by omega
        have HPC : Aside0 (∀ W, Calls Try.prog 19 #[.int .i64 n] W fun e w' => NewRow W w' e (padL m)) := ⟨fun W => by rw [hm]; exact pad_calls n (by omega) W⟩
        clear hm
        go_wp2_with (first | (go_at_call 19; refine (HPC.out _).mono ?_; rintro e w5 ⟨A5, c5, rfl, hle5, hC5, hb5⟩; have HC5 := Aside0.mk hC5; have HB5 := Aside0.mk hb5; clear hC5 hb5) | (go_at_call 20; refine (refPad_calls m hm2 _).mono ?_; rintro e w6 ⟨A6, c6, rfl, hle6, hC6, hb6⟩; have HC6 := Aside0.mk hC6; have HB6 := Aside0.mk hb6; clear hC6 hb6) | (go_at_call 18; refine (same_calls A5 c5 (padL m) A6 c6 (padL m) _ (Kd.C_below HC5.out HB6.out) hle5 HC6.out hle6 (by rw [padL_length]; omega)).mono ?_; rintro e w7 ⟨rfl, m, rfl⟩))
        go_ret
        exact ⟨rfl, pw_below_drewN (below_step (below_step HR.out.2 HB5.out) HB6.out) _⟩
end Go.Proofs.Ythpkbamhpmgffaa.Sha
