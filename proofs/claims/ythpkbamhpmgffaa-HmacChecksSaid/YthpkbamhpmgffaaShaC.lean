/- Hand-written walks and plain lemmas of sha, hmac, keys: what each Go function comes to. No condition. -/
import Derived.Test.YthpkbamhpmgffaaShaB
namespace Go.Proofs.Ythpkbamhpmgffaa.Sha
open Go.RowKit Go.Proofs.YthpkbamhpmgffaaW.Hand Go.Proofs.YthpkbamhpmgffaaW.PrintWords Go.Proofs.YthpkbamhpmgffaaW.PrintLast Go.Proofs.YthpkbamhpmgffaaW.PrintMore Go.Proofs.Ythpkbamhpmgffaa.PF02
set_option linter.unusedVariables false
set_option linter.unusedSimpArgs false

def rnds (ks ws v : List Int) : Nat → List Int
  | 0 => v
  | n + 1 => rnd (rnds ks ws v n) (rd ks n) (rd ws n)
theorem rnds_length (ks ws v : List Int) (n : Nat) : (rnds ks ws v n).length = v.length := by
  induction n with
  | zero => rfl
  | succ n ih => rw [rnds, rnd_length, ih]
def addW (h v : List Int) : List Int := (h.zip v).map fun p => (p.1 + p.2) % 4294967296
def comp (h ws : List Int) : List Int := addW h (rnds KS (sched ws 48) h 64)
theorem upto_setW (h v : List Int) (hl : h.length = v.length) (k : Nat) (hk : k < h.length) :
    (addW (h.take k) (v.take k) ++ h.drop k).set k ((rd h k + rd v k) % 4294967296) = addW (h.take (k + 1)) (v.take (k + 1)) ++ h.drop (k + 1) := by
  have h1 : (addW (h.take k) (v.take k)).length = k := by unfold addW; simp; omega
  rw [List.set_append_right _ _ (by omega), h1, Nat.sub_self, List.drop_eq_getElem_cons hk, List.set_cons_zero]
  have h2 : addW (h.take (k + 1)) (v.take (k + 1)) = addW (h.take k) (v.take k) ++ [(rd h k + rd v k) % 4294967296] := by
    have hk2 : k < v.length := by omega
    unfold addW
    rw [List.take_succ_eq_append_getElem hk, List.take_succ_eq_append_getElem hk2, List.zip_append (by simp; omega)]
    simp [rd, List.getD_eq_getElem?_getD, hk, hk2]
  rw [h2, List.append_assoc]
  rfl
set_option maxHeartbeats 8000000 in
set_option maxRecDepth 100000 in
theorem Rounds_short (h : List Int) (hh : h.length = 8) (A : Option Addr) (c : Nat) (b : List Int) (hb : b.length ≠ 64) (w : World) :
    Calls Try.prog 14 #[.agg (arr .u32 h), .slice A b.length c] w fun e w' => e = .returned (.tuple #[.agg (arr .u32 h), .int .i64 22]) ∧ Below w.heap.size w w' := by
  have HH := Aside0.mk hh
  clear hh
  have hne : ((b.length : Int) == 64) = false := by simp; omega
  have hne2 : ((b.length : Int) != 64) = true := by simp; omega
  go_enter Try.func14, Try.ntmps14
  go_wp2_with (first | ((with_reducible refine gate_dst (N := 2) rfl ?_); refine L_box rfl 23 (.tmp 0) rfl (.agg (arr .u32 h)) rfl ?_; intro g2 w1 hb2 hg2 hs2 hl2; have HB2 := Aside0.mk hb2; clear hb2; have HG2 := Aside0.mk hg2; clear hg2; have HS2 := Aside0.mk hs2; clear hs2; have HL2 := Aside0.mk hl2; clear hl2) | ((with_reducible refine gate_dst (N := 4) rfl ?_); refine L_alloc rfl 23 rfl (.agg (arr .u32 (List.replicate 8 0))) 8 (by kernel_rfl) ?_; intro g4 w2 hb4 hg4 hs4 hl4; have HB4 := Aside0.mk hb4; clear hb4; have HG4 := Aside0.mk hg4; clear hg4; have HS4 := Aside0.mk hs4; clear hs4; have HL4 := Aside0.mk hl4; clear hl4) | ((with_reducible refine gate_dst (N := 16) rfl ?_); refine L_load rfl 23 (.tmp 2) rfl g2 rfl 23 (arr .u32 h) _ ((HL4.out.block g2 (by have := HG4.out; have := HS2.out; omega)).trans HB2.out) Try.underlying23 rfl (by rw [arr_size, HH.out]; kernel_rfl) ?_) | (refine L_store rfl rfl 23 (.tmp 4) (.tmp 16) (by rfl) g4 (arr .u32 h) (by rfl) (by rfl) (arr .u32 (List.replicate 8 0)) 23 (HB4.out) (by rw [arr_size, arr_size, HH.out]; rfl) (by rw [arr_size, HH.out]; kernel_rfl) (arr_one _ _) ?_; intro w9 hbw9 huw9; have HBW9 := Aside0.mk hbw9; clear hbw9; have HUW9 := Aside0.mk huw9; clear huw9))
  exact ret_cell2 rfl rfl g4 rfl _ rfl (arr .u32 h) 23 _ HBW9.out Try.underlying23 rfl (by rw [arr_size, HH.out]; kernel_rfl) ⟨rfl, HUW9.out.below ((HL2.out.trans (HL4.out.mono (by have := HG2.out; have := HS2.out; omega)))) (by have := HG2.out; have := HG4.out; have := HS2.out; omega)⟩
set_option maxHeartbeats 8000000 in
set_option maxRecDepth 100000 in
theorem Rounds_calls (k : Nat) (h : List Int) (hh : h.length = 8) (A : Option Addr) (c : Nat) (b : List Int) (hb : b.length = 64) (ws : List Int) (hws : word_Words.f k b = some (ws, 0)) (hl16 : ws.length = 16) (w : World) (hC : Kd.C (Kd.int .u8) w A b.length b) (hcc : b.length ≤ c) :
    Calls Try.prog 14 #[.agg (arr .u32 h), .slice A b.length c] w fun e w' => e = .returned (.tuple #[.agg (arr .u32 (comp h ws)), .int .i64 0]) ∧ Below w.heap.size w w' := by
  have HH := Aside0.mk hh
  have HC := Aside0.mk hC
  have HCC := Aside0.mk hcc
  have HWS := Aside0.mk hws
  have HL16 := Aside0.mk hl16
  have hne : ((b.length : Int) == 64) = true := by simp; omega
  have hne2 : ((b.length : Int) != 64) = false := by simp; omega
  clear hh hC hcc hws hl16 hb
  go_enter Try.func14, Try.ntmps14
  go_wp2_with (first | ((with_reducible refine gate_dst (N := 2) rfl ?_); refine L_box rfl 23 (.tmp 0) rfl (.agg (arr .u32 h)) rfl ?_; intro g2 w1 hb2 hg2 hs2 hl2; have HB2 := Aside0.mk hb2; clear hb2; have HG2 := Aside0.mk hg2; clear hg2; have HS2 := Aside0.mk hs2; clear hs2; have HL2 := Aside0.mk hl2; clear hl2) | ((with_reducible refine gate_dst (N := 4) rfl ?_); refine L_alloc rfl 23 rfl (.agg (arr .u32 (List.replicate 8 0))) 8 (by kernel_rfl) ?_; intro g4 w2 hb4 hg4 hs4 hl4; have HB4 := Aside0.mk hb4; clear hb4; have HG4 := Aside0.mk hg4; clear hg4; have HS4 := Aside0.mk hs4; clear hs4; have HL4 := Aside0.mk hl4; clear hl4) | (go_at_call 40; refine (word_Words.calls k A c b ws 0 _ (Kd.C_below (Kd.C_below HC.out HL2.out) HL4.out) HCC.out HWS.out).mono ?_; rintro e w3 ⟨v0, rfl, hr3, hl3⟩; obtain ⟨A3, c3, rfl, hle3, hc3⟩ := Kd.R_reads hr3; clear hr3; have HL3 := Aside0.mk hl3; clear hl3; have HC3 := Aside0.mk hc3; clear hc3; have HLE3 := Aside0.mk hle3; clear hle3) | (go_at_call 41; refine (schedule_calls A3 c3 ws HL16.out _ HC3.out).mono ?_; rintro e w4 ⟨rfl, hl5⟩; have HL5 := Aside0.mk hl5; clear hl5) | (go_at_call 42; refine (constants_calls _).mono ?_; rintro e w5 ⟨rfl, hl6⟩; have HL6 := Aside0.mk hl6; clear hl6) | ((with_reducible refine gate_dst (N := 8) rfl ?_); refine L_alloc rfl 68 rfl (.agg (arr .u32 (List.replicate 64 0))) 64 (by kernel_rfl) ?_; intro g8 w6 hb8 hg8 hs8 hl8; have HB8 := Aside0.mk hb8; clear hb8; have HG8 := Aside0.mk hg8; clear hg8; have HS8 := Aside0.mk hs8; clear hs8; have HL8 := Aside0.mk hl8; clear hl8) | ((with_reducible refine gate_dst (N := 9) rfl ?_); refine L_alloc rfl 68 rfl (.agg (arr .u32 (List.replicate 64 0))) 64 (by kernel_rfl) ?_; intro g9 w7 hb9 hg9 hs9 hl9; have HB9 := Aside0.mk hb9; clear hb9; have HG9 := Aside0.mk hg9; clear hg9; have HS9 := Aside0.mk hs9; clear hs9; have HL9 := Aside0.mk hl9; clear hl9) | (refine L_store rfl rfl 68 (.tmp 8) (.tmp 23) (by rfl) g8 (arr .u32 (sched ws 48)) (by rfl) (by rfl) (arr .u32 (List.replicate 64 0)) 68 ((HL9.out.block g8 (by have := HG9.out; have := HS8.out; omega)).trans HB8.out) (by rw [arr_size, arr_size, sched_length, HL16.out]; rfl) (by rw [arr_size, sched_length, HL16.out]; kernel_rfl) (arr_one _ _) ?_; intro w8 hbw8 huw8; have HBW8 := Aside0.mk hbw8; clear hbw8; have HUW8 := Aside0.mk huw8; clear huw8) | (refine L_store rfl rfl 68 (.tmp 9) (.tmp 24) (by rfl) g9 (arr .u32 KS) (by rfl) (by rfl) (arr .u32 (List.replicate 64 0)) 68 ((HUW8.out.block g9 (by have := HG9.out; have := HS8.out; omega)).trans HB9.out) (by rw [arr_size, arr_size]; rfl) (by rw [arr_size]; kernel_rfl) (arr_one _ _) ?_; intro w9 hbw9 huw9; have HBW9 := Aside0.mk hbw9; clear hbw9; have HUW9 := Aside0.mk huw9; clear huw9) | ((with_reducible refine gate_dst (N := 25) rfl ?_); have hord : w.heap.size ≤ g2 ∧ g2 < g4 ∧ g4 < g8 ∧ g8 < g9 := (by have := HL3.out.size; have := HL5.out.size; have := HL6.out.size; have := HG2.out; have := HG4.out; have := HG8.out; have := HG9.out; have := HS2.out; have := HS4.out; have := HS8.out; omega); have hbw : Below w1.heap.size w1 w7 := below_step (below_step (below_step (below_step (below_step HL4.out HL3.out) HL5.out) HL6.out) HL8.out) HL9.out; have hbw2 : Below w2.heap.size w2 w7 := below_step (below_step (below_step (below_step HL3.out HL5.out) HL6.out) HL8.out) HL9.out; have hf : w9.heap[g2]? = some (.cells (arr .u32 h) 23 (0, 0)) ∧ w9.heap[g4]? = some (.cells (arr .u32 (List.replicate 8 0)) 23 (0, 0)) ∧ w9.heap[g8]? = some (.cells (arr .u32 (sched ws 48)) 68 (0, 0)) ∧ w9.heap[g9]? = some (.cells (arr .u32 KS) 68 (0, 0)) ∧ Below w.heap.size w w9 := ⟨(HUW9.out.block g2 (by omega)).trans ((HUW8.out.block g2 (by omega)).trans ((hbw.block g2 (by have := HS2.out; omega)).trans HB2.out)), (HUW9.out.block g4 (by omega)).trans ((HUW8.out.block g4 (by omega)).trans ((hbw2.block g4 (by have := HS4.out; omega)).trans HB4.out)), (HUW9.out.block g8 (by omega)).trans HBW8.out, HBW9.out, HUW9.out.below (HUW8.out.below (below_step HL2.out hbw) (by omega)) (by omega)⟩; have HF := Aside0.mk hf; have HORD := Aside0.mk hord; clear hf hord hbw hbw2 HL2 HL3 HL4 HL5 HL6 HL8 HL9 HG2 HG4 HG8 HG9 HS2 HS4 HS8 HS9 HB2 HB4 HB8 HB9 HBW8 HBW9 HUW8 HUW9 HC3 HLE3; refine L_load rfl 23 (.tmp 2) rfl g2 rfl 23 (arr .u32 h) _ HF.out.1 Try.underlying23 rfl (by rw [arr_size, HH.out]; kernel_rfl) ?_) | ((with_reducible refine gate_dst (N := 10) rfl ?_); refine L_alloc rfl 23 rfl (.agg (arr .u32 (List.replicate 8 0))) 8 (by kernel_rfl) ?_; intro g10 w10 hb10 hg10 hs10 hl10; have HB10 := Aside0.mk hb10; clear hb10; have HG10 := Aside0.mk hg10; clear hg10; have HS10 := Aside0.mk hs10; clear hs10; have HL10 := Aside0.mk hl10; clear hl10) | (refine L_store rfl rfl 23 (.tmp 10) (.tmp 25) (by rfl) g10 (arr .u32 h) (by rfl) (by rfl) (arr .u32 (List.replicate 8 0)) 23 (HB10.out) (by rw [arr_size, arr_size, HH.out]; rfl) (by rw [arr_size, HH.out]; kernel_rfl) (arr_one _ _) ?_; intro w11 hbw11 huw11; have HBW11 := Aside0.mk hbw11; clear hbw11; have HUW11 := Aside0.mk huw11; clear huw11))
  have hi : g9 < g10 ∧ Aside0 (w11.heap[g2]? = some (.cells (arr .u32 h) 23 (0, 0)) ∧ w11.heap[g4]? = some (.cells (arr .u32 (List.replicate 8 0)) 23 (0, 0)) ∧ w11.heap[g8]? = some (.cells (arr .u32 (sched ws 48)) 68 (0, 0)) ∧ w11.heap[g9]? = some (.cells (arr .u32 KS) 68 (0, 0)) ∧ w11.heap[g10]? = some (.cells (arr .u32 (rnds KS (sched ws 48) h 0)) 23 (0, 0)) ∧ Below w.heap.size w w11) := by
    obtain ⟨f2, f4, f8, f9, fb⟩ := HF.out
    have hord := HORD.out
    have h9 := blk_lt f9
    have := HG10.out
    have hb := HL10.out
    exact ⟨by omega, ⟨(HUW11.out.block g2 (by omega)).trans ((hb.block g2 (blk_lt f2)).trans f2), (HUW11.out.block g4 (by omega)).trans ((hb.block g4 (blk_lt f4)).trans f4), (HUW11.out.block g8 (by omega)).trans ((hb.block g8 (blk_lt f8)).trans f8), (HUW11.out.block g9 (by omega)).trans ((hb.block g9 h9).trans f9), HBW11.out, HUW11.out.below (below_step fb hb) (by omega)⟩⟩
  obtain ⟨h910, HI⟩ := hi
  have hord := HORD.out
  clear HF HL10 HG10 HS10 HB10 HBW11 HUW11
  go_loopw [26] (fun i wr => ∃ n : Nat, n ≤ 64 ∧ i = .int .i64 n ∧ Aside0 (wr.heap[g2]? = some (.cells (arr .u32 h) 23 (0, 0)) ∧ wr.heap[g4]? = some (.cells (arr .u32 (List.replicate 8 0)) 23 (0, 0)) ∧ wr.heap[g8]? = some (.cells (arr .u32 (sched ws 48)) 68 (0, 0)) ∧ wr.heap[g9]? = some (.cells (arr .u32 KS) 68 (0, 0)) ∧ wr.heap[g10]? = some (.cells (arr .u32 (rnds KS (sched ws 48) h n)) 23 (0, 0)) ∧ Below w.heap.size w wr)) (fun i _ => 64 - (intOf i).toNat)
  case atStart => exact ⟨0, by omega, rfl, HI⟩
  case round =>
    clear HI
    obtain ⟨n, hn, rfl, HR⟩ := hrel
    by_cases hlt : n < 64
    · go_wp2
      have hvl : (rnds KS (sched ws 48) h n).length = 8 := by rw [rnds_length, HH.out]
      refine region_tail 7 (by kernel_rfl) (by kernel_rfl) ?_
      intro W hW hD
      simp only [List.take_succ_cons, List.take_zero, List.drop_succ_cons, List.drop_zero]
      have hf : W.heap[g2]? = some (.cells (arr .u32 h) 23 (0, 0)) ∧ W.heap[g4]? = some (.cells (arr .u32 (List.replicate 8 0)) 23 (0, 0)) ∧ W.heap[g8]? = some (.cells (arr .u32 (sched ws 48)) 68 (0, 0)) ∧ W.heap[g9]? = some (.cells (arr .u32 KS) 68 (0, 0)) ∧ W.heap[g10]? = some (.cells (arr .u32 (rnds KS (sched ws 48) h n)) 23 (0, 0)) ∧ Below w.heap.size w W := by
        obtain ⟨f2, f4, f8, f9, f10, fb⟩ := HR.out
        rw [hW]
        exact ⟨f2, f4, f8, f9, f10, fb.trans (hD.below.mono (by have := fb.size; omega))⟩
      have hc9 : W.cell? ⟨g9, n, none⟩ = some (.int .u32 (rd KS (n : Int))) := by rw [blk_cell hf.2.2.2.1, arr_get _ _ _ (by show n < 64; omega)]
      have hc8 : W.cell? ⟨g8, n, none⟩ = some (.int .u32 (rd (sched ws 48) (n : Int))) := by rw [blk_cell hf.2.2.1, arr_get _ _ _ (by rw [sched_length, HL16.out]; omega)]
      have HF := Aside0.mk hf
      have HVL := Aside0.mk hvl
      clear hf hvl hW hD HR
      refine S_load rfl 23 (.tmp 10) rfl g10 rfl 23 (arr .u32 (rnds KS (sched ws 48) h n)) _ HF.out.2.2.2.2.1 Try.underlying23 rfl (by rw [arr_size, HVL.out]; kernel_rfl) ?_
      repeat still_step
      refine wpStill_nil ?_
      go_wp2_with (first | (go_at_call 43; refine (round_calls _ HVL.out _ _ _).mono ?_; rintro e W2 ⟨rfl, hb⟩; have HB := Aside0.mk hb; clear hb) | (refine L_store rfl rfl 23 (.tmp 10) (.tmp 36) (by rfl) g10 (arr .u32 (rnd (rnds KS (sched ws 48) h n) (rd KS (n : Int)) (rd (sched ws 48) (n : Int)))) (by rfl) (by rfl) (arr .u32 (rnds KS (sched ws 48) h n)) 23 ((HB.out.block g10 (blk_lt HF.out.2.2.2.2.1)).trans HF.out.2.2.2.2.1) (by rw [arr_size, arr_size, rnd_length]) (by rw [arr_size, rnd_length, HVL.out]; kernel_rfl) (arr_one _ _) ?_; intro w12 hbw12 huw12; have HBW12 := Aside0.mk hbw12; clear hbw12; have HUW12 := Aside0.mk huw12; clear huw12))
      go_roundw
      case rel =>
        refine ⟨n + 1, by omega, by go_num, ⟨?_⟩⟩
        obtain ⟨f2, f4, f8, f9, f10, fb⟩ := HF.out
        have hb := HB.out
        have hu := HUW12.out
        exact ⟨(hu.block g2 (by omega)).trans ((hb.block g2 (blk_lt f2)).trans f2), (hu.block g4 (by omega)).trans ((hb.block g4 (blk_lt f4)).trans f4), (hu.block g8 (by omega)).trans ((hb.block g8 (blk_lt f8)).trans f8), (hu.block g9 (by omega)).trans ((hb.block g9 (blk_lt f9)).trans f9), HBW12.out, hu.below (below_step fb hb) (by omega)⟩
      case measure => simp [intOf]; omega
    · obtain rfl : n = 64 := by omega
      obtain ⟨vs, hvs⟩ : ∃ vs, vs = rnds KS (sched ws 48) h 64 := ⟨_, rfl⟩
      have hv8 : vs.length = 8 := by rw [hvs, rnds_length, HH.out]
      have HG : Aside0 (wr.heap[g2]? = some (.cells (arr .u32 (addW (h.take 0) (vs.take 0) ++ h.drop 0)) 23 (0, 0)) ∧ wr.heap[g4]? = some (.cells (arr .u32 (List.replicate 8 0)) 23 (0, 0)) ∧ wr.heap[g10]? = some (.cells (arr .u32 vs) 23 (0, 0)) ∧ Below w.heap.size w wr) := by
        obtain ⟨f2, f4, f8, f9, f10, fb⟩ := HR.out
        rw [← hvs] at f10
        exact ⟨f2, f4, f10, fb⟩
      have HVS := Aside0.mk hvs
      have HV8 := Aside0.mk hv8
      clear HR hvs hv8
      go_wp2
      go_loopw [38] (fun i wr => ∃ n : Nat, n ≤ 8 ∧ i = .int .i64 n ∧ Aside0 (wr.heap[g2]? = some (.cells (arr .u32 (addW (h.take n) (vs.take n) ++ h.drop n)) 23 (0, 0)) ∧ wr.heap[g4]? = some (.cells (arr .u32 (List.replicate 8 0)) 23 (0, 0)) ∧ wr.heap[g10]? = some (.cells (arr .u32 vs) 23 (0, 0)) ∧ Below w.heap.size w wr)) (fun i _ => 8 - (intOf i).toNat)
      case atStart => exact ⟨0, by omega, rfl, HG⟩
      case round =>
        clear HG
        obtain ⟨n, hn, rfl, HR⟩ := hrel
        by_cases hlt2 : n < 8
        · have hll : (addW (h.take n) (vs.take n)).length = n := by have := HH.out; have := HV8.out; unfold addW; simp; omega
          have hc2 : wr.cell? ⟨g2, n, none⟩ = some (.int .u32 (rd h (n : Int))) := by
            have := HH.out
            rw [blk_cell HR.out.1, arr_get _ _ _ (by rw [List.length_append, hll, List.length_drop]; omega)]
            congr 2
            unfold rd
            simp only [Int.toNat_natCast, List.getD_eq_getElem?_getD]
            rw [List.getElem?_append_right (by omega), hll, Nat.sub_self, List.getElem?_drop, Nat.add_zero]
          have hf2 : wr.frozen? ⟨g2, n, none⟩ = false := blk_frozen HR.out.1 n
          have hc10 : wr.cell? ⟨g10, n, none⟩ = some (.int .u32 (rd vs (n : Int))) := by rw [blk_cell HR.out.2.2.1, arr_get _ _ _ (by rw [HV8.out]; omega)]
          obtain ⟨x, hx⟩ : ∃ x, x = rd h (n : Int) := ⟨_, rfl⟩
          obtain ⟨y, hy⟩ : ∃ y, y = rd vs (n : Int) := ⟨_, rfl⟩
          rw [← hx] at hc2
          rw [← hy] at hc10
          have HX := Aside0.mk (And.intro hx hy)
          clear hx hy hll
          go_wp2
          go_region
          go_wp2
          go_roundw
          case rel =>
            obtain ⟨f2, f4, f10, fb⟩ := HR.out
            obtain ⟨hx, hy⟩ := HX.out
            refine ⟨n + 1, by omega, by go_num, ⟨?_, ?_, ?_, ?_⟩⟩
            · refine (blk_set (w := wr.drewN _) f2 n _).trans ?_
              rw [arr_set, hx, hy, upto_setW h vs (by rw [HH.out, HV8.out]) n (by rw [HH.out]; omega)]
            · exact (blk_far (w := wr.drewN _) f4 (p := ⟨g2, n, none⟩) (by show g4 ≠ g2; omega) _)
            · exact (blk_far (w := wr.drewN _) f10 (p := ⟨g2, n, none⟩) (by show g10 ≠ g2; omega) _)
            · exact (pw_below_drewN fb _).setCell (by show w.heap.size ≤ g2; omega) _
          case measure => simp [intOf]; omega
        · obtain rfl : n = 8 := by omega
          have HQ : Aside0 (wr.heap[g2]? = some (.cells (arr .u32 (comp h ws)) 23 (0, 0)) ∧ (comp h ws).length = 8) := by
            have e : addW (h.take 8) (vs.take 8) ++ h.drop 8 = comp h ws := by
              rw [List.take_of_length_le (by rw [HH.out]; omega), List.take_of_length_le (by rw [HV8.out]; omega), List.drop_of_length_le (by rw [HH.out]; omega), List.append_nil, HVS.out]
              rfl
            have := HR.out.1
            rw [e] at this
            exact ⟨this, by rw [comp, addW, List.length_map, List.length_zip, rnds_length, HH.out]; rfl⟩
          go_wp2_with (first | ((with_reducible refine gate_dst (N := 50) rfl ?_); refine L_load rfl 23 (.tmp 2) rfl g2 rfl 23 (arr .u32 (comp h ws)) _ (HQ.out.1) Try.underlying23 rfl (by rw [arr_size, HQ.out.2]; kernel_rfl) ?_) | (refine L_store rfl rfl 23 (.tmp 4) (.tmp 50) (by rfl) g4 (arr .u32 (comp h ws)) (by rfl) (by rfl) (arr .u32 (List.replicate 8 0)) 23 (HR.out.2.1) (by rw [arr_size, arr_size, HQ.out.2]; rfl) (by rw [arr_size, HQ.out.2]; kernel_rfl) (arr_one _ _) ?_; intro w13 hbw13 huw13; have HBW13 := Aside0.mk hbw13; clear hbw13; have HUW13 := Aside0.mk huw13; clear huw13))
          exact ret_cell2 rfl rfl g4 rfl _ rfl (arr .u32 (comp h ws)) 23 _ HBW13.out Try.underlying23 rfl (by rw [arr_size, HQ.out.2]; kernel_rfl) ⟨rfl, HUW13.out.below HR.out.2.2.2 (by omega)⟩
end Go.Proofs.Ythpkbamhpmgffaa.Sha
