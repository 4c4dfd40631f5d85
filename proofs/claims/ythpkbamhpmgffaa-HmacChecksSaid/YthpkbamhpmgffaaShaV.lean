/- Hand-written walks and plain lemmas of sha, hmac, keys: what each Go function comes to. No condition. -/
import Derived.Test.YthpkbamhpmgffaaShaU
namespace Go.Proofs.Ythpkbamhpmgffaa.Sha
open Go.RowKit Go.Proofs.YthpkbamhpmgffaaW.Hand Go.Proofs.YthpkbamhpmgffaaW.PrintWords Go.Proofs.YthpkbamhpmgffaaW.PrintLast Go.Proofs.YthpkbamhpmgffaaW.PrintMore Go.Proofs.Ythpkbamhpmgffaa.PF02 Go.Proofs.Ythpkbamhpmgffaa.Base Go.Proofs.Ythpkbamhpmgffaa.LF02
set_option linter.unusedVariables false
set_option linter.unusedSimpArgs false

theorem own_in (wl : List Int) (k : Nat) (h : k < wl.length) : rd (fitL wl) (k : Nat) = rd wl (k : Nat) := by
  rw [rd_lt (by unfold fitL; rw [List.length_append]; omega), rd_lt h]
  unfold fitL
  exact List.getElem_append_left h
theorem own_out (wl : List Int) (k : Nat) (h : ¬ k < wl.length) (h64 : k < 64) : rd (fitL wl) (k : Nat) = 0 := by
  rw [rd_lt (by unfold fitL; rw [List.length_append, List.length_replicate]; omega)]
  unfold fitL
  rw [List.getElem_append_right (by omega), List.getElem_replicate]
/-- The state of HmacOwn's loop: the 64 bytes in their block, the row to compare with. -/
def OSt (w wr : World) (g3 : Nat) (A : Option Addr) (wl : List Int) : Prop := wr.heap[g3]? = some (.cells (arr .u8 (fitL wl)) 53 (0, 0)) ∧ Kd.C (Kd.int .u8) wr A wl.length wl ∧ Below w.heap.size w wr
theorem OSt.at {w wr : World} {g3 : Nat} {A : Option Addr} {wl : List Int} (h : OSt w wr g3 A wl) (k : Nat) (h64 : k < 64) : (k < wl.length → ∃ ad x, A = some ad ∧ wr.cell? (ad.add k) = some (.int .u8 x) ∧ wr.cell? ⟨g3, k, none⟩ = some (.int .u8 x)) ∧ (¬ k < wl.length → wr.cell? ⟨g3, k, none⟩ = some (.int .u8 0)) := by
  obtain ⟨h1, h2, h3⟩ := h
  have hlen : k < (fitL wl).length := by unfold fitL; rw [List.length_append, List.length_replicate]; omega
  refine ⟨fun hk => ?_, fun hk => ?_⟩
  · obtain ⟨ad, e, hc⟩ := C_cells h2 (by omega)
    refine ⟨ad, rd wl (k : Nat), e, hc k _ ?_, ?_⟩
    · rw [List.getElem?_map, List.getElem?_eq_getElem hk, rd_lt hk]
      rfl
    · rw [blk_cell h1 k, arr_get _ _ _ hlen, own_in wl k hk]
  · rw [blk_cell h1 k, arr_get _ _ _ hlen, own_out wl k hk h64]
theorem OSt.drewN {w wr : World} {g3 : Nat} {A : Option Addr} {wl : List Int} (h : OSt w wr g3 A wl) (m : Nat) : OSt w (wr.drewN m) g3 A wl := ⟨h.1, Kd.C_drewN h.2.1 m, pw_below_drewN h.2.2 m⟩
set_option maxHeartbeats 8000000 in
set_option maxRecDepth 100000 in
theorem HmacOwn_calls (A : Option Addr) (c : Nat) (key : List Int) (w : World) (hC : Kd.C (Kd.int .u8) w A key.length key) (hcc : key.length ≤ c) (hB : Bytes key) :
    Calls Try.prog 8 #[.slice A key.length c] w fun e w' => e = .returned (.bool true) ∧ Below w.heap.size w w' := by
  have HC := Aside0.mk hC
  have HBB := Aside0.mk hB
  clear hC hB
  have hown : (64 < key.length → ownL key = fitL (shaL key)) ∧ (¬ 64 < key.length → ownL key = fitL key) := ⟨fun h => by unfold ownL; rw [if_pos h], fun h => by unfold ownL; rw [if_neg h]⟩
  have HOWN := Aside0.mk hown
  clear hown
  by_cases hbig : key.length > 300
  · go_enter Try.func8, Try.ntmps8
    go_wp2_with ((go_at_call 27; refine (awake03_calls _).mono ?_; rintro e wa ⟨rfl, hba⟩; have HBA := Aside0.mk hba; clear hba))
    go_ret
    exact ⟨rfl, HBA.out⟩
  by_cases h64 : key.length > 64
  · go_enter Try.func8, Try.ntmps8
    go_wp2_with (first | (go_at_call 27; refine (awake03_calls _).mono ?_; rintro e wa ⟨rfl, hba⟩; have HBA := Aside0.mk hba; clear hba) | (go_at_call 30; refine (Own_calls A c key _ (Kd.C_below HC.out HBA.out) hcc HBB.out (by omega)).mono ?_; rintro e w2 ⟨rfl, hb2⟩; have HB2 := Aside0.mk hb2; clear hb2) | ((with_reducible refine gate_dst (N := 3) rfl ?_); refine L_alloc rfl 53 rfl (.agg (arr .u8 (List.replicate 64 0))) 64 (by kernel_rfl) ?_; intro g3 w3 hb3 hg3 hs3 hl3; have HB3 := Aside0.mk hb3; clear hb3; have HG3 := Aside0.mk hg3; clear hg3; have HS3 := Aside0.mk hs3; clear hs3; have HL3 := Aside0.mk hl3; clear hl3) | (refine L_store rfl rfl 53 (.tmp 3) (.tmp 12) (by rfl) g3 (arr .u8 (ownL key)) (by rfl) (by rfl) (arr .u8 (List.replicate 64 0)) 53 (HB3.out) (by rw [arr_size, arr_size, ownL_length]; rfl) (by rw [arr_size, ownL_length]; kernel_rfl) (arr_one _ _) ?_; intro w4 hbw4 huw4; have HBW4 := Aside0.mk hbw4; clear hbw4; have HUW4 := Aside0.mk huw4; clear huw4; have HBE := Aside0.mk (HUW4.out.below (below_step (below_step HBA.out HB2.out) HL3.out) (by have := HG3.out; have := HBA.out.size; have := HB2.out.size; omega))) | (go_at_call 22; refine (refSum_calls A c key _ (Kd.C_below HC.out HBE.out) hcc HBB.out (by omega)).mono ?_; rintro e w5 ⟨A5, c5, rfl, hle5, hC5, hb5⟩; have HC5 := Aside0.mk hC5; have HB5 := Aside0.mk hb5; clear hC5 hb5))
    have hI : Aside0 (OSt w w5 g3 A5 (shaL key)) := ⟨by rw [← HOWN.out.1 h64]; exact (HB5.out.block g3 (blk_lt HBW4.out)).trans HBW4.out, HC5.out, below_step HBE.out HB5.out⟩
    clear HBA HB2 HB3 HG3 HS3 HL3 HBW4 HUW4 HBE HC5 HB5
    go_loopw [5] (fun i wr => ∃ k : Nat, k ≤ 64 ∧ i = .int .i64 k ∧ Aside0 (OSt w wr g3 A5 (shaL key))) (fun i _ => 64 - (intOf i).toNat)
    case atStart => exact ⟨0, by omega, rfl, hI⟩
    case round =>
      clear hI
      obtain ⟨k, hk, rfl, HR⟩ := hrel
      by_cases hlt : k < 64
      · have hat := HR.out.at k hlt
        by_cases hin : k < (shaL key).length
        · obtain ⟨ad, x, hAd, hcx, hcy⟩ := hat.1 hin
          subst hAd
          clear hat
          have hinI : decide ((k : Int) < ((shaL key).length : Int)) = true := by rw [decide_eq_true_eq]; omega
          have hinJ : decide (((shaL key).length : Int) ≤ (k : Int)) = false := by rw [decide_eq_false_iff_not]; omega
          have hinL : decide ((shaL key).length ≤ k) = false := by rw [decide_eq_false_iff_not]; omega
          have hinM : decide (k < (shaL key).length) = true := by rw [decide_eq_true_eq]; omega
          have hinK : (k : Int) < ((shaL key).length : Int) := by omega
          go_wp2
          go_quiet (fail)
          go_wp2
          go_roundw
          case rel => exact ⟨k + 1, by omega, by go_num, ⟨HR.out.drewN _⟩⟩
          case measure => simp [intOf]; omega
        · have hcy := hat.2 hin
          clear hat
          have hinI : decide ((k : Int) < ((shaL key).length : Int)) = false := by rw [decide_eq_false_iff_not]; omega
          have hinJ : decide (((shaL key).length : Int) ≤ (k : Int)) = true := by rw [decide_eq_true_eq]; omega
          have hinL : decide ((shaL key).length ≤ k) = true := by rw [decide_eq_true_eq]; omega
          have hinM : decide (k < (shaL key).length) = false := by rw [decide_eq_false_iff_not]; omega
          go_wp2
          go_quiet (fail)
          go_wp2
          go_roundw
          case rel => exact ⟨k + 1, by omega, by go_num, ⟨HR.out.drewN _⟩⟩
          case measure => simp [intOf]; omega
      · obtain rfl : k = 64 := by omega
        have HBE := Aside0.mk HR.out.2.2
        clear HR
        go_wp2
        go_ret
        exact ⟨rfl, HBE.out⟩
  · go_enter Try.func8, Try.ntmps8
    go_wp2_with (first | (go_at_call 27; refine (awake03_calls _).mono ?_; rintro e wa ⟨rfl, hba⟩; have HBA := Aside0.mk hba; clear hba) | (go_at_call 30; refine (Own_calls A c key _ (Kd.C_below HC.out HBA.out) hcc HBB.out (by omega)).mono ?_; rintro e w2 ⟨rfl, hb2⟩; have HB2 := Aside0.mk hb2; clear hb2) | ((with_reducible refine gate_dst (N := 3) rfl ?_); refine L_alloc rfl 53 rfl (.agg (arr .u8 (List.replicate 64 0))) 64 (by kernel_rfl) ?_; intro g3 w3 hb3 hg3 hs3 hl3; have HB3 := Aside0.mk hb3; clear hb3; have HG3 := Aside0.mk hg3; clear hg3; have HS3 := Aside0.mk hs3; clear hs3; have HL3 := Aside0.mk hl3; clear hl3) | (refine L_store rfl rfl 53 (.tmp 3) (.tmp 12) (by rfl) g3 (arr .u8 (ownL key)) (by rfl) (by rfl) (arr .u8 (List.replicate 64 0)) 53 (HB3.out) (by rw [arr_size, arr_size, ownL_length]; rfl) (by rw [arr_size, ownL_length]; kernel_rfl) (arr_one _ _) ?_; intro w4 hbw4 huw4; have HBW4 := Aside0.mk hbw4; clear hbw4; have HUW4 := Aside0.mk huw4; clear huw4; have HBE := Aside0.mk (HUW4.out.below (below_step (below_step HBA.out HB2.out) HL3.out) (by have := HG3.out; have := HBA.out.size; have := HB2.out.size; omega))))
    have hI : Aside0 (OSt w w4 g3 A key) := ⟨by rw [← HOWN.out.2 h64]; exact HBW4.out, Kd.C_below HC.out HBE.out, HBE.out⟩
    clear HBA HB2 HB3 HG3 HS3 HL3 HBW4 HUW4 HBE
    go_loopw [5] (fun i wr => ∃ k : Nat, k ≤ 64 ∧ i = .int .i64 k ∧ Aside0 (OSt w wr g3 A key)) (fun i _ => 64 - (intOf i).toNat)
    case atStart => exact ⟨0, by omega, rfl, hI⟩
    case round =>
      clear hI
      obtain ⟨k, hk, rfl, HR⟩ := hrel
      by_cases hlt : k < 64
      · have hat := HR.out.at k hlt
        by_cases hin : k < key.length
        · obtain ⟨ad, x, hAd, hcx, hcy⟩ := hat.1 hin
          subst hAd
          clear hat
          have hinI : decide ((k : Int) < (key.length : Int)) = true := by rw [decide_eq_true_eq]; omega
          have hinJ : decide ((key.length : Int) ≤ (k : Int)) = false := by rw [decide_eq_false_iff_not]; omega
          have hinL : decide (key.length ≤ k) = false := by rw [decide_eq_false_iff_not]; omega
          have hinM : decide (k < key.length) = true := by rw [decide_eq_true_eq]; omega
          have hinK : (k : Int) < (key.length : Int) := by omega
          go_wp2
          go_quiet (fail)
          go_wp2
          go_roundw
          case rel => exact ⟨k + 1, by omega, by go_num, ⟨HR.out.drewN _⟩⟩
          case measure => simp [intOf]; omega
        · have hcy := hat.2 hin
          clear hat
          have hinI : decide ((k : Int) < (key.length : Int)) = false := by rw [decide_eq_false_iff_not]; omega
          have hinJ : decide ((key.length : Int) ≤ (k : Int)) = true := by rw [decide_eq_true_eq]; omega
          have hinL : decide (key.length ≤ k) = true := by rw [decide_eq_true_eq]; omega
          have hinM : decide (k < key.length) = false := by rw [decide_eq_false_iff_not]; omega
          go_wp2
          go_quiet (fail)
          go_wp2
          go_roundw
          case rel => exact ⟨k + 1, by omega, by go_num, ⟨HR.out.drewN _⟩⟩
          case measure => simp [intOf]; omega
      · obtain rfl : k = 64 := by omega
        have HBE := Aside0.mk HR.out.2.2
        clear HR
        go_wp2
        go_ret
        exact ⟨rfl, HBE.out⟩
end Go.Proofs.Ythpkbamhpmgffaa.Sha
