/- Hand-written walks and plain lemmas of sha, hmac, keys: what each Go function comes to. No condition. -/
import Derived.Test.YthpkbamhpmgffaaShaL
namespace Go.Proofs.Ythpkbamhpmgffaa.Sha
open Go.RowKit Go.Proofs.YthpkbamhpmgffaaW.Hand Go.Proofs.YthpkbamhpmgffaaW.PrintWords Go.Proofs.YthpkbamhpmgffaaW.PrintLast Go.Proofs.YthpkbamhpmgffaaW.PrintMore Go.Proofs.Ythpkbamhpmgffaa.PF02 Go.Proofs.Ythpkbamhpmgffaa.Base Go.Proofs.Ythpkbamhpmgffaa.LF02
set_option linter.unusedVariables false
set_option linter.unusedSimpArgs false
set_option maxHeartbeats 8000000 in
set_option maxRecDepth 100000 in
theorem ShaRounds_calls (h : List Int) (A : Option Addr) (c : Nat) (b : List Int) (w : World) (hh : h.length = 8) (hu : U32 h) (hC : Kd.C (Kd.int .u8) w A b.length b) (hcc : b.length ≤ c) (hB : Bytes b) : Calls Try.prog 3 #[.agg (arr .u32 h), .slice A b.length c] w fun e w' => e = .returned (.bool true) ∧ Below w.heap.size w w' := by
  have HC := Aside0.mk hC
  have HBB := Aside0.mk hB
  have HH := Aside0.mk hh
  have HU := Aside0.mk hu
  clear hC hB hh hu
  by_cases hlen : b.length = 64
  · have hne : ((b.length : Int) == 64) = true := by simp; omega
    have hne2 : ((b.length : Int) != 64) = false := by simp; omega
    have HLEN := Aside0.mk hlen
    clear hlen
    go_enter Try.func3, Try.ntmps3
    go_wp2_with (first | ((with_reducible refine gate_dst (N := 2) rfl ?_); refine L_box rfl 23 (.tmp 0) rfl (.agg (arr .u32 h)) rfl ?_; intro g2 w1 hb2 hg2 hs2 hl2; have HB2 := Aside0.mk hb2; clear hb2; have HG2 := Aside0.mk hg2; clear hg2; have HS2 := Aside0.mk hs2; clear hs2; have HL2 := Aside0.mk hl2; clear hl2) | (go_at_call 13; refine (awake02_calls _).mono ?_; rintro e wa ⟨rfl, hba⟩; have HBA := Aside0.mk hba; clear hba) | ((with_reducible refine gate_dst (N := 12) rfl ?_); refine L_load rfl 23 (.tmp 2) rfl g2 rfl 23 (arr .u32 h) _ ((HBA.out.block g2 (blk_lt HB2.out)).trans HB2.out) Try.underlying23 rfl (by rw [arr_size, HH.out]; kernel_rfl) ?_) | (go_at_call 14; refine (RoundsB_calls h HH.out A c b HBB.out HLEN.out _ (Kd.C_below (Kd.C_below HC.out HL2.out) HBA.out) hcc).mono ?_; rintro e w3 ⟨rfl, hb3⟩; have HB3 := Aside0.mk hb3; clear hb3) | ((with_reducible refine gate_dst (N := 5) rfl ?_); refine L_alloc rfl 23 rfl (.agg (arr .u32 (List.replicate 8 0))) 8 (by kernel_rfl) ?_; intro g5 w4 hb5 hg5 hs5 hl5; have HB5 := Aside0.mk hb5; clear hb5; have HG5 := Aside0.mk hg5; clear hg5; have HS5 := Aside0.mk hs5; clear hs5; have HL5 := Aside0.mk hl5; clear hl5) | (refine L_store rfl rfl 23 (.tmp 5) (.tmp 15) (by rfl) g5 (arr .u32 (cmpB h b)) (by rfl) (by rfl) (arr .u32 (List.replicate 8 0)) 23 (HB5.out) (by rw [arr_size, arr_size, cmpB, comp_length, HH.out]; rfl) (by rw [arr_size, cmpB, comp_length, HH.out]; kernel_rfl) (arr_one _ _) ?_; intro w5 hbw5 huw5; have HBW5 := Aside0.mk hbw5; clear hbw5; have HUW5 := Aside0.mk huw5; clear huw5; have hf : w5.heap[g2]? = some (.cells (arr .u32 h) 23 (0, 0)) ∧ w5.heap[g5]? = some (.cells (arr .u32 (cmpB h b)) 23 (0, 0)) ∧ Below w.heap.size w w5 ∧ Kd.C (Kd.int .u8) w5 A b.length b := ⟨(HUW5.out.block g2 (by have := HG5.out; have := blk_lt HB2.out; have := HBA.out.size; have := HB3.out.size; omega)).trans ((HL5.out.block g2 (by have := blk_lt HB2.out; have := HBA.out.size; have := HB3.out.size; omega)).trans ((HB3.out.block g2 (by have := blk_lt HB2.out; have := HBA.out.size; omega)).trans ((HBA.out.block g2 (blk_lt HB2.out)).trans HB2.out))), HBW5.out, HUW5.out.below (below_step (below_step (below_step HL2.out HBA.out) HB3.out) HL5.out) (by have := HG5.out; have := HL2.out.size; have := HBA.out.size; have := HB3.out.size; omega), Kd.C_below HC.out (HUW5.out.below (below_step (below_step (below_step HL2.out HBA.out) HB3.out) HL5.out) (by have := HG5.out; have := HL2.out.size; have := HBA.out.size; have := HB3.out.size; omega))⟩; have HF := Aside0.mk hf; clear hf) | (go_at_call 15; obtain ⟨kr, hkr⟩ := (refRounds_ev h b HH.out HBB.out HLEN.out HU.out).rounds; have HKR := Aside0.mk hkr; clear hkr; refine (calls_of_args (args' := #[.slice (some ⟨g2, 0, none⟩) h.length h.length, .slice A b.length c]) (by rw [HH.out]) (batonref02_Rounds.calls kr (some ⟨g2, 0, none⟩) h.length h A c b (cmpB h b) _ (C_arr HF.out.1 (by rw [HH.out]; omega)) (Nat.le_refl _) HF.out.2.2.2 hcc HKR.out)).mono ?_; rintro e w6 ⟨v6, rfl, hr6, hb6⟩; obtain ⟨A6, c6, rfl, hle6, hC6⟩ := Kd.R_reads hr6; have HC6 := Aside0.mk hC6; have HB6 := Aside0.mk hb6; clear hr6 hC6 hb6))
    have hx8 : (cmpB h b).length = 8 := by rw [cmpB, comp_length, HH.out]
    have hg5 : w6.heap[g5]? = some (.cells (arr .u32 (cmpB h b)) 23 (0, 0)) := (HB6.out.block g5 (blk_lt HF.out.2.1)).trans HF.out.2.1
    obtain ⟨ad, rfl, hcs⟩ := C_cells HC6.out (by omega)
    have hI : Aside0 ((∀ i, i < 8 → w6.cell? (ad.add i) = some (.int .u32 (rd (cmpB h b) (i : Nat))) ∧ w6.cell? ⟨g5, i, none⟩ = some (.int .u32 (rd (cmpB h b) (i : Nat)))) ∧ Below w.heap.size w w6) := by
      refine ⟨fun i hi => ⟨hcs i _ ?_, ?_⟩, below_step HF.out.2.2.1 HB6.out⟩
      · rw [List.getElem?_map, List.getElem?_eq_getElem (by omega), rd_lt (by omega)]
        rfl
      · rw [blk_cell hg5 i, arr_get _ _ _ (by omega)]
    have HX8 := Aside0.mk hx8
    clear hx8 hg5 hcs HB2 HG2 HS2 HL2 HBA HB3 HB5 HG5 HS5 HL5 HBW5 HUW5 HF HC6 HB6
    go_loopw [8] (fun i wr => ∃ k : Nat, k ≤ 8 ∧ i = .int .i64 k ∧ Aside0 ((∀ i, i < 8 → wr.cell? (ad.add i) = some (.int .u32 (rd (cmpB h b) (i : Nat))) ∧ wr.cell? ⟨g5, i, none⟩ = some (.int .u32 (rd (cmpB h b) (i : Nat)))) ∧ Below w.heap.size w wr)) (fun i _ => 8 - (intOf i).toNat)
    case atStart => exact ⟨0, by omega, rfl, hI⟩
    case round =>
      clear hI
      obtain ⟨k, hk, rfl, HR⟩ := hrel
      by_cases hlt : k < 8
      · obtain ⟨c1, c2⟩ := HR.out.1 k hlt
        obtain ⟨x, hx⟩ : ∃ x, x = rd (cmpB h b) (k : Nat) := ⟨_, rfl⟩
        rw [← hx] at c1 c2
        have hl8 : (k : Int) < ((cmpB h b).length : Int) := by rw [HX8.out]; omega
        clear hx
        go_wp2
        go_quiet (fail)
        go_wp2
        go_roundw
        case rel => exact ⟨k + 1, by omega, by go_num, ⟨fun i hi => HR.out.1 i hi, pw_below_drewN HR.out.2 _⟩⟩
        case measure => simp [intOf]; omega
      · obtain rfl : k = 8 := by omega
        go_wp2
        go_ret
        exact ⟨rfl, HR.out.2⟩
  · have hne : ((b.length : Int) == 64) = false := by simp; omega
    have hne2 : ((b.length : Int) != 64) = true := by simp; omega
    have HLEN := Aside0.mk hlen
    have heq : ∀ W : World, (Op.equalIn 10000 23 (.agg (arr .u32 h)) (.agg (arr .u32 h))).run Try.prog W = .ok true W := fun W => by rw [run_equalIn_arr W 9998 23 22 8 .u32 Try.underlying23 Try.underlying22 (by kernel_rfl) h h HH.out HH.out, decide_eq_true rfl]
    clear hlen
    go_enter Try.func3, Try.ntmps3
    go_wp2_with (first | ((with_reducible refine gate_dst (N := 2) rfl ?_); refine L_box rfl 23 (.tmp 0) rfl (.agg (arr .u32 h)) rfl ?_; intro g2 w1 hb2 hg2 hs2 hl2; have HB2 := Aside0.mk hb2; clear hb2; have HG2 := Aside0.mk hg2; clear hg2; have HS2 := Aside0.mk hs2; clear hs2; have HL2 := Aside0.mk hl2; clear hl2) | (go_at_call 13; refine (awake02_calls _).mono ?_; rintro e wa ⟨rfl, hba⟩; have HBA := Aside0.mk hba; clear hba) | ((with_reducible refine gate_dst (N := 12) rfl ?_); refine L_load rfl 23 (.tmp 2) rfl g2 rfl 23 (arr .u32 h) _ ((HBA.out.block g2 (blk_lt HB2.out)).trans HB2.out) Try.underlying23 rfl (by rw [arr_size, HH.out]; kernel_rfl) ?_) | (go_at_call 14; refine (Rounds_short h HH.out A c b HLEN.out _).mono ?_; rintro e w3 ⟨rfl, hb3⟩; have HB3 := Aside0.mk hb3; clear hb3) | ((with_reducible refine gate_dst (N := 5) rfl ?_); refine L_alloc rfl 23 rfl (.agg (arr .u32 (List.replicate 8 0))) 8 (by kernel_rfl) ?_; intro g5 w4 hb5 hg5 hs5 hl5; have HB5 := Aside0.mk hb5; clear hb5; have HG5 := Aside0.mk hg5; clear hg5; have HS5 := Aside0.mk hs5; clear hs5; have HL5 := Aside0.mk hl5; clear hl5) | (refine L_store rfl rfl 23 (.tmp 5) (.tmp 15) (by rfl) g5 (arr .u32 h) (by rfl) (by rfl) (arr .u32 (List.replicate 8 0)) 23 (HB5.out) (by rw [arr_size, arr_size, HH.out]; rfl) (by rw [arr_size, HH.out]; kernel_rfl) (arr_one _ _) ?_; intro w5 hbw5 huw5; have HBW5 := Aside0.mk hbw5; clear hbw5; have HUW5 := Aside0.mk huw5; clear huw5) | ((with_reducible refine gate_dst (N := 20) rfl ?_); refine L_load rfl 23 (.tmp 5) rfl g5 rfl 23 (arr .u32 h) _ (HBW5.out) Try.underlying23 rfl (by rw [arr_size, HH.out]; kernel_rfl) ?_) | ((with_reducible refine gate_dst (N := 21) rfl ?_); refine L_load rfl 23 (.tmp 2) rfl g2 rfl 23 (arr .u32 h) _ ((HUW5.out.block g2 (by have := HG5.out; have := blk_lt HB2.out; have := HBA.out.size; have := HB3.out.size; omega)).trans ((HL5.out.block g2 (by have := blk_lt HB2.out; have := HBA.out.size; have := HB3.out.size; omega)).trans ((HB3.out.block g2 (by have := blk_lt HB2.out; have := HBA.out.size; omega)).trans ((HBA.out.block g2 (blk_lt HB2.out)).trans HB2.out)))) Try.underlying23 rfl (by rw [arr_size, HH.out]; kernel_rfl) ?_))
    go_ret
    exact ⟨rfl, HUW5.out.below (below_step (below_step (below_step HL2.out HBA.out) HB3.out) HL5.out) (by have := HG5.out; have := HL2.out.size; have := HBA.out.size; have := HB3.out.size; omega)⟩
end Go.Proofs.Ythpkbamhpmgffaa.Sha
