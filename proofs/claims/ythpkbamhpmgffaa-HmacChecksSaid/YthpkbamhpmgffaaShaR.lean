/- Hand-written walks and plain lemmas of sha, hmac, keys: what each Go function comes to. No condition. -/
import Derived.Test.YthpkbamhpmgffaaShaL
import Derived.Laws.MakeOwn
namespace Go.Proofs.Ythpkbamhpmgffaa.Sha
open Go.RowKit Go.Proofs.YthpkbamhpmgffaaW.Hand Go.Proofs.YthpkbamhpmgffaaW.PrintWords Go.Proofs.YthpkbamhpmgffaaW.PrintLast Go.Proofs.YthpkbamhpmgffaaW.PrintMore Go.Proofs.Ythpkbamhpmgffaa.PF02 Go.Proofs.Ythpkbamhpmgffaa.Base Go.Proofs.Ythpkbamhpmgffaa.LF02
set_option linter.unusedVariables false
set_option linter.unusedSimpArgs false

/-! ### hmac -/
def fitL (k : List Int) : List Int := k ++ List.replicate (64 - k.length) 0
def ownL (key : List Int) : List Int := fitL (if key.length > 64 then shaL key else key)
theorem fitL_length (k : List Int) (h : k.length ≤ 64) : (fitL k).length = 64 := by unfold fitL; rw [List.length_append, List.length_replicate]; omega
theorem ownL_length (key : List Int) : (ownL key).length = 64 := by
  unfold ownL
  split
  · exact fitL_length _ (by rw [shaL_length]; omega)
  · exact fitL_length _ (by omega)
theorem fitL_bytes {k : List Int} (h : Bytes k) : Bytes (fitL k) := h.append (fun x hx => by rw [List.mem_replicate] at hx; omega)
theorem ownL_bytes {key : List Int} (h : Bytes key) : Bytes (ownL key) := by
  unfold ownL
  split
  · exact fitL_bytes (shaL_bytes _)
  · exact fitL_bytes h
theorem splice_fit (k : List Int) (h : k.length ≤ 64) : (splice (List.replicate 64 (Value.int .u8 0)) 0 (k.map (Value.int .u8))).toArray = arr .u8 (fitL k) := by
  unfold splice arr fitL
  rw [List.take_zero, List.nil_append, Nat.zero_add, List.drop_replicate, List.length_map, List.map_append, List.map_replicate]
set_option maxHeartbeats 8000000 in
set_option maxRecDepth 100000 in
theorem Own_short (A : Option Addr) (c : Nat) (key : List Int) (w : World) (hC : Kd.C (Kd.int .u8) w A key.length key) (hs : key.length ≤ 64) : Calls Try.prog 30 #[.slice A key.length c] w fun e w' => e = .returned (.agg (arr .u8 (fitL key))) ∧ Below w.heap.size w w' := by
  have HC := Aside0.mk hC
  have hfl := fitL_length key hs
  have HFL := Aside0.mk hfl
  clear hC hfl
  go_enter Try.func30, Try.ntmps30
  go_wp2_with (first | ((with_reducible refine gate_dst (N := 2) rfl ?_); refine L_alloc rfl 53 rfl (.agg (arr .u8 (List.replicate 64 0))) 64 (by kernel_rfl) ?_; intro g2 w1 hb2 hg2 hs2 hl2; have HB2 := Aside0.mk hb2; clear hb2; have HG2 := Aside0.mk hg2; clear hg2; have HS2 := Aside0.mk hs2; clear hs2; have HL2 := Aside0.mk hl2; clear hl2) | ((with_reducible refine gate_dst (N := 3) rfl ?_); refine L_alloc rfl 53 rfl (.agg (arr .u8 (List.replicate 64 0))) 64 (by kernel_rfl) ?_; intro g3 w2 hb3 hg3 hs3 hl3; have HB3 := Aside0.mk hb3; clear hb3; have HG3 := Aside0.mk hg3; clear hg3; have HS3 := Aside0.mk hs3; clear hs3; have HL3 := Aside0.mk hl3; clear hl3) | ((with_reducible refine gate_builtin (b := .copy) (xs := #[.tmp 14, .tmp 15]) rfl ?_); refine wpList_copy_splice rfl (.tmp 14) (.tmp 15) 24 24 rfl 5 Try.underlying24 (by kernel_rfl) (some ⟨g3, 0, none⟩) A 64 64 key.length c rfl rfl g3 0 (List.replicate 64 (Value.int .u8 0)) 53 HB3.out (key.map (Value.int .u8)) (by rw [List.length_map]; exact (Nat.min_eq_left hs).symm) (fun hp => ⟨rfl, C_cells (Kd.C_below (Kd.C_below HC.out HL2.out) HL3.out) (by simpa using hp)⟩) (by simp; omega) (by intro v hv; obtain ⟨x, _, rfl⟩ := List.mem_map.1 hv; rfl) g3 w2 (Below.refl _ _) (Nat.le_refl _) ?_; intro w4 hb4 hB4; have HD4 := Aside0.mk (hb4.out.trans (by rw [splice_fit key hs])); have HB4 := Aside0.mk hB4; clear hb4 hB4) | ((with_reducible refine gate_dst (N := 17) rfl ?_); refine L_load rfl 53 (.tmp 3) rfl g3 rfl 53 (arr .u8 (fitL key)) _ (HD4.out) Try.underlying53 rfl (by rw [arr_size, HFL.out]; kernel_rfl) ?_) | (refine L_store rfl rfl 53 (.tmp 2) (.tmp 17) (by rfl) g2 (arr .u8 (fitL key)) (by rfl) (by rfl) (arr .u8 (List.replicate 64 0)) 53 ((HB4.out.block g2 (by have := HG3.out; have := HS2.out; omega)).trans ((HL3.out.block g2 (blk_lt HB2.out)).trans HB2.out)) (by rw [arr_size, arr_size, HFL.out]; rfl) (by rw [arr_size, HFL.out]; kernel_rfl) (arr_one _ _) ?_; intro w5 hbw5 huw5; have HBW5 := Aside0.mk hbw5; clear hbw5; have HUW5 := Aside0.mk huw5; clear huw5))
  exact ret_cell rfl rfl g2 rfl (arr .u8 (fitL key)) 53 _ HBW5.out Try.underlying53 rfl (by rw [arr_size, HFL.out]; kernel_rfl) ⟨rfl, HUW5.out.below ((below_step HL2.out HL3.out).trans (HB4.out.mono (by have := HG2.out; have := HG3.out; have := HS2.out; omega))) (Nat.le_of_eq HG2.out)⟩
set_option maxHeartbeats 8000000 in
set_option maxRecDepth 100000 in
theorem Own_long (A : Option Addr) (c : Nat) (key : List Int) (w : World) (hC : Kd.C (Kd.int .u8) w A key.length key) (hcc : key.length ≤ c) (hs : key.length > 64) (hB : Bytes key) (hl : key.length ≤ 1000000000) : Calls Try.prog 30 #[.slice A key.length c] w fun e w' => e = .returned (.agg (arr .u8 (fitL (shaL key)))) ∧ Below w.heap.size w w' := by
  have HC := Aside0.mk hC
  have HBB := Aside0.mk hB
  have hfl := fitL_length (shaL key) (by rw [shaL_length]; omega)
  have HFL := Aside0.mk hfl
  have h32 := shaL_length key
  have H32 := Aside0.mk h32
  clear hC hfl hB h32
  go_enter Try.func30, Try.ntmps30
  go_wp2_with (first | ((with_reducible refine gate_dst (N := 2) rfl ?_); refine L_alloc rfl 53 rfl (.agg (arr .u8 (List.replicate 64 0))) 64 (by kernel_rfl) ?_; intro g2 w1 hb2 hg2 hs2 hl2; have HB2 := Aside0.mk hb2; clear hb2; have HG2 := Aside0.mk hg2; clear hg2; have HS2 := Aside0.mk hs2; clear hs2; have HL2 := Aside0.mk hl2; clear hl2) | ((with_reducible refine gate_dst (N := 3) rfl ?_); refine L_alloc rfl 53 rfl (.agg (arr .u8 (List.replicate 64 0))) 64 (by kernel_rfl) ?_; intro g3 w2 hb3 hg3 hs3 hl3; have HB3 := Aside0.mk hb3; clear hb3; have HG3 := Aside0.mk hg3; clear hg3; have HS3 := Aside0.mk hs3; clear hs3; have HL3 := Aside0.mk hl3; clear hl3) | (go_at_call 21; refine (Sum_calls A c key _ (Kd.C_below (Kd.C_below HC.out HL2.out) HL3.out) hcc HBB.out hl).mono ?_; rintro e w3 ⟨rfl, hb5⟩; have HB5 := Aside0.mk hb5; clear hb5) | ((with_reducible refine gate_dst (N := 4) rfl ?_); refine L_alloc rfl 38 rfl (.agg (arr .u8 (List.replicate 32 0))) 32 (by kernel_rfl) ?_; intro g4 w6 hb4 hg4 hs4 hl4; have HB4 := Aside0.mk hb4; clear hb4; have HG4 := Aside0.mk hg4; clear hg4; have HS4 := Aside0.mk hs4; clear hs4; have HL4 := Aside0.mk hl4; clear hl4) | (refine L_store rfl rfl 38 (.tmp 4) (.tmp 9) (by rfl) g4 (arr .u8 (shaL key)) (by rfl) (by rfl) (arr .u8 (List.replicate 32 0)) 38 (HB4.out) (by rw [arr_size, arr_size, H32.out]; rfl) (by rw [arr_size, H32.out]; kernel_rfl) (arr_one _ _) ?_; intro w7 hbw7 huw7; have HBW7 := Aside0.mk hbw7; clear hbw7; have HUW7 := Aside0.mk huw7; clear huw7))
  have hC4 : Kd.C (Kd.int .u8) w7 (some ⟨g4, 0, none⟩) (shaL key).length (shaL key) := C_arr HBW7.out (by rw [H32.out]; omega)
  have h3w7 : w7.heap[g3]? = some (.cells (arr .u8 (List.replicate 64 0)) 53 (0, 0)) := (HUW7.out.block g3 (by have := HG4.out; have := HG3.out; have := HS3.out; have := HB5.out.size; omega)).trans ((HL4.out.block g3 (Nat.lt_of_lt_of_le (blk_lt HB3.out) HB5.out.size)).trans ((HB5.out.block g3 (blk_lt HB3.out)).trans HB3.out))
  have h2w7 : w7.heap[g2]? = some (.cells (arr .u8 (List.replicate 64 0)) 53 (0, 0)) := (HUW7.out.block g2 (by have := HG4.out; have := HG3.out; have := HS3.out; have := HS2.out; have := HB5.out.size; omega)).trans ((HL4.out.block g2 (by have := blk_lt HB2.out; have := HL3.out.size; have := HB5.out.size; omega)).trans ((HB5.out.block g2 (by have := blk_lt HB2.out; have := HL3.out.size; omega)).trans ((HL3.out.block g2 (blk_lt HB2.out)).trans HB2.out)))
  have hbe : Below w.heap.size w w7 := HUW7.out.below (below_step (below_step (below_step HL2.out HL3.out) HB5.out) HL4.out) (by have := HG4.out; have := HG3.out; have := HG2.out; have := HS2.out; have := HS3.out; have := HB5.out.size; omega)
  have hlt23 : g2 < g3 := by have := HG3.out; have := HS2.out; omega
  have hg2w : w.heap.size = g2 := HG2.out
  have HX := Aside0.mk (And.intro hC4 (And.intro h3w7 (And.intro h2w7 (And.intro hbe hg2w))))
  clear hC4 h3w7 h2w7 hbe hg2w HB2 HG2 HS2 HL2 HB3 HG3 HS3 HL3 HB4 HG4 HS4 HL4 HB5 HBW7 HUW7
  go_region_law (first | ((refine step_copy_splice (by rfl) (.tmp 10) (.tmp 11) 24 24 (by rfl) 5 Try.underlying24 (by kernel_rfl) (some ⟨g3, 0, none⟩) (some ⟨g4, 0, none⟩) 64 64 32 32 (by rfl) (by rfl) g3 0 (List.replicate 64 (Value.int .u8 0)) 53 (show _ from HX.out.2.1) ((shaL key).map (Value.int .u8)) (by rw [List.length_map, H32.out]; rfl) (fun hp => ⟨rfl, C_cells (show Kd.C (Kd.int .u8) w7.drew (some ⟨g4, 0, none⟩) (shaL key).length (shaL key) from Kd.C_drew HX.out.1) (by rw [H32.out]; omega)⟩) (by rw [List.length_map, H32.out]; simp) (by intro v hv; obtain ⟨x, _, rfl⟩ := List.mem_map.1 hv; rfl) g3 w7.drew (Below.refl _ _) (Nat.le_refl _) ?_; intro w8 hb8 hB8; have HD8 := Aside0.mk (hb8.out.trans (by rw [splice_fit (shaL key) (by rw [H32.out]; omega)])); have HB8 := Aside0.mk hB8; clear hb8 hB8)))
  go_wp2_with (first | ((with_reducible refine gate_dst (N := 13) rfl ?_); refine L_load rfl 53 (.tmp 3) rfl g3 rfl 53 (arr .u8 (fitL (shaL key))) _ (HD8.out) Try.underlying53 rfl (by rw [arr_size, HFL.out]; kernel_rfl) ?_) | (refine L_store rfl rfl 53 (.tmp 2) (.tmp 13) (by rfl) g2 (arr .u8 (fitL (shaL key))) (by rfl) (by rfl) (arr .u8 (List.replicate 64 0)) 53 ((HB8.out.block g2 hlt23).trans (show _ from HX.out.2.2.1)) (by rw [arr_size, arr_size, HFL.out]; rfl) (by rw [arr_size, HFL.out]; kernel_rfl) (arr_one _ _) ?_; intro w9 hbw9 huw9; have HBW9 := Aside0.mk hbw9; clear hbw9; have HUW9 := Aside0.mk huw9; clear huw9))
  exact ret_cell rfl rfl g2 rfl (arr .u8 (fitL (shaL key))) 53 _ HBW9.out Try.underlying53 rfl (by rw [arr_size, HFL.out]; kernel_rfl) ⟨rfl, HUW9.out.below ((below_drew HX.out.2.2.2.1).trans (HB8.out.mono (by have := HX.out.2.2.2.2; omega))) (Nat.le_of_eq HX.out.2.2.2.2)⟩
theorem Own_calls (A : Option Addr) (c : Nat) (key : List Int) (w : World) (hC : Kd.C (Kd.int .u8) w A key.length key) (hcc : key.length ≤ c) (hB : Bytes key) (hl : key.length ≤ 1000000000) : Calls Try.prog 30 #[.slice A key.length c] w fun e w' => e = .returned (.agg (arr .u8 (ownL key))) ∧ Below w.heap.size w w' := by
  unfold ownL
  split
  · rename_i h
    exact Own_long A c key w hC hcc h hB hl
  · rename_i h
    exact Own_short A c key w hC (by omega)
end Go.Proofs.Ythpkbamhpmgffaa.Sha
