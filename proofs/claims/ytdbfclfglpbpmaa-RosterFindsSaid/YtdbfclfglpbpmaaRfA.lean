/- roster.Secret: what it comes to. No condition beside those stated. -/
import Derived.Test.YtdbfclfglpbpmaaShaTwo
import Derived.Test.YtdbfclfglpbpmaaKeyOne
namespace Go.Proofs.Ytdbfclfglpbpmaa.Rf
open Go.AnyFacts Go.RowKit Go.Proofs.YtdbfclfglpbpmaaW.Hand Go.Proofs.YtdbfclfglpbpmaaW.PrintWords Go.Proofs.YtdbfclfglpbpmaaW.PrintLast Go.Proofs.YtdbfclfglpbpmaaW.PrintMore Go.Proofs.Ytdbfclfglpbpmaa.PF25F Go.Proofs.Ytdbfclfglpbpmaa.Base Go.Proofs.Ytdbfclfglpbpmaa.LF25F Go.Proofs.Ytdbfclfglpbpmaa.Sha
set_option linter.unusedVariables false
set_option linter.unusedSimpArgs false

theorem upd_blk {w w' : World} {g k : Nat} (h : Upd w w' g) (hne : k ≠ g) : w'.heap[k]? = w.heap[k]? := h.block k hne
set_option maxHeartbeats 8000000 in
set_option maxRecDepth 100000 in
theorem Secret_found (sec : List Int) (A0 : Option Addr) (c0 : Nat) (l : List S115) (id : Int) (r1 r2 : Int) (r3 : Bool) (r4 : Int) (w : World) (hsl : sec.length = 32) (hBs : Bytes sec) (hr0 : Kd.C k115 w A0 l.length l) (hc0 : l.length ≤ c0) (h : roster_Find.f l id = some (r1, r2, r3, r4, true)) :
    Calls Try.prog 68 #[.agg (arr .u8 sec), .slice A0 l.length c0, .int .i64 id] w fun e w' => e = .returned (.tuple #[.agg (arr .u8 (keyL sec { data := #[100, 101, 118, 105, 99, 101] } [id, r2])), .int .i64 0]) ∧ Below w.heap.size w w' := by
  have HBS := Aside0.mk hBs
  have HSL := Aside0.mk hsl
  have HR0 := Aside0.mk hr0
  have HC0 := Aside0.mk hc0
  have HF := Aside0.mk h
  obtain ⟨S, hS⟩ : ∃ S : List Int, S = keyL sec { data := #[100, 101, 118, 105, 99, 101] } [id, r2] := ⟨_, rfl⟩
  have HSE := Aside0.mk hS
  have HS32 := Aside0.mk (show S.length = 32 by rw [hS]; exact keyL_length _ _ _)
  obtain ⟨D, hD⟩ : ∃ D : Array Value, D = #[.int .i64 r1, .int .i64 r2, .bool r3, .int .i64 r4] := ⟨_, rfl⟩
  have HDE := Aside0.mk hD
  have HDS := Aside0.mk (show D.size = 4 by rw [hD]; rfl)
  rw [← hS]
  clear hBs hsl hS hr0 hc0 h hD
  go_enter Try.func68, Try.ntmps68
  go_wp2_with (first | ((with_reducible refine gate_dst (N := 3) rfl ?_); refine L_box rfl 130 (.tmp 0) rfl (.agg (arr .u8 sec)) rfl ?_; intro g3 w1 hb3 hg3 hs3 hl3; have HB3 := Aside0.mk hb3; clear hb3; have HG3 := Aside0.mk hg3; clear hg3; have HS3 := Aside0.mk hs3; clear hs3; have HL3 := Aside0.mk hl3; clear hl3) | ((with_reducible refine gate_dst (N := 6) rfl ?_); refine L_alloc rfl 130 rfl (.agg (arr .u8 (List.replicate 32 0))) 32 (by kernel_rfl) ?_; intro g6 w2 hb6 hg6 hs6 hl6; have HB6 := Aside0.mk hb6; clear hb6; have HG6 := Aside0.mk hg6; clear hg6; have HS6 := Aside0.mk hs6; clear hs6; have HL6 := Aside0.mk hl6; clear hl6) | (go_at_call 58; refine (roster_Find.calls A0 c0 l id r1 r2 r3 r4 true _ (Kd.C_below HR0.out (below_step HL3.out HL6.out)) HC0.out HF.out).mono ?_; rintro e w3 ⟨rfl, hb3f⟩; rw [← HDE.out]; have HB3F := Aside0.mk hb3f; clear hb3f) | ((with_reducible refine gate_dst (N := 8) rfl ?_); refine L_alloc rfl 115 rfl (.agg #[.int .i64 0, .int .i64 0, .bool false, .int .i64 0]) 4 (by kernel_rfl) ?_; intro g8 w4 hb8 hg8 hs8 hl8; have HB8 := Aside0.mk hb8; clear hb8; have HG8 := Aside0.mk hg8; clear hg8; have HS8 := Aside0.mk hs8; clear hs8; have HL8 := Aside0.mk hl8; clear hl8) | ((with_reducible refine gate_store (t := 115) (p := 8) rfl ?_); refine L_store rfl rfl 115 (.tmp 8) (.tmp 14) (by rfl) g8 (D) (by rfl) (by rfl) (#[.int .i64 0, .int .i64 0, .bool false, .int .i64 0]) 115 (HB8.out) (by rw [HDS.out] <;> rfl) (by rw [HDS.out] <;> kernel_rfl) (by rw [HDE.out, ← Array.all_toList]; rfl) ?_; intro w5 hbw5 huw5; have HBW5 := Aside0.mk hbw5; clear hbw5; have HUW5 := Aside0.mk huw5; clear huw5; have hx8 : w5.cell? ⟨g8, 1, none⟩ = some (.int .i64 r2) := (by have := HBW5.out; rw [HDE.out] at this; simp [World.cell?, this]); have HB5 := Aside0.mk (show Below w.heap.size w w5 from (HUW5.out.below (below_step (below_step (below_step HL3.out HL6.out) HB3F.out) HL8.out) (by have := HG8.out; have := HL3.out.size; have := HL6.out.size; have := HB3F.out.size; omega))); have HG6C := Aside0.mk (show w5.heap[g6]? = some (.cells (arr .u8 (List.replicate 32 0)) 130 (0, 0)) from ((HUW5.out.block g6 (by have := HG8.out; have := HB3F.out.size; have := blk_lt HB6.out; omega)).trans ((HL8.out.block g6 (Nat.lt_of_lt_of_le (blk_lt HB6.out) HB3F.out.size)).trans ((HB3F.out.block g6 (blk_lt HB6.out)).trans HB6.out)))); have HG3C := Aside0.mk (show w5.heap[g3]? = some (.cells (arr .u8 sec) 130 (0, 0)) from ((HUW5.out.block g3 (by have := HG8.out; have := HB3F.out.size; have := blk_lt HB3.out; have := HL6.out.size; omega)).trans ((HL8.out.block g3 (Nat.lt_of_lt_of_le (blk_lt HB3.out) (Nat.le_trans HL6.out.size HB3F.out.size))).trans ((HB3F.out.block g3 (Nat.lt_of_lt_of_le (blk_lt HB3.out) HL6.out.size)).trans ((HL6.out.block g3 (blk_lt HB3.out)).trans HB3.out))))); have HLE := Aside0.mk (show w.heap.size ≤ g6 by have := HG6.out; have := HL3.out.size; omega)) | ((with_reducible refine gate_dst (N := 19) rfl ?_); refine L_load rfl 130 (.tmp 3) rfl g3 rfl 130 (arr .u8 sec) _ (HG3C.out) Try.underlying130 rfl (by rw [arr_size, HSL.out]; kernel_rfl) ?_) | (go_at_call 94; refine (Device_calls sec id r2 _ HSL.out HBS.out).mono ?_; rintro e w6 ⟨rfl, hb6⟩; rw [← HSE.out]; have HB6D := Aside0.mk hb6; clear hb6) | ((with_reducible refine gate_store (t := 130) (p := 6) rfl ?_); refine L_store rfl rfl 130 (.tmp 6) (.tmp 23) (by rfl) g6 (arr .u8 S) (by rfl) (by rfl) (arr .u8 (List.replicate 32 0)) 130 ((HB6D.out.block g6 (blk_lt HG6C.out)).trans HG6C.out) (by rw [arr_size, arr_size, HS32.out]; rfl) (by rw [arr_size, HS32.out]; kernel_rfl) (arr_one _ _) ?_; intro w9 hbw9 huw9; have HBW9 := Aside0.mk hbw9; clear hbw9; have HUW9 := Aside0.mk huw9; clear huw9))
  exact ret_cell2 rfl rfl g6 rfl _ rfl (arr .u8 S) 130 _ HBW9.out Try.underlying130 rfl (by rw [arr_size, HS32.out]; kernel_rfl) ⟨rfl, HUW9.out.below (below_step HB5.out HB6D.out) HLE.out⟩
set_option maxHeartbeats 8000000 in
set_option maxRecDepth 100000 in
theorem Secret_absent (sec : List Int) (A0 : Option Addr) (c0 : Nat) (l : List S115) (id : Int) (w : World) (hsl : sec.length = 32) (hBs : Bytes sec) (hr0 : Kd.C k115 w A0 l.length l) (hc0 : l.length ≤ c0) (h : roster_Find.f l id = some (0, 0, false, 0, false)) :
    Calls Try.prog 68 #[.agg (arr .u8 sec), .slice A0 l.length c0, .int .i64 id] w fun e w' => e = .returned (.tuple #[.agg (arr .u8 (List.replicate 32 0)), .int .i64 11]) ∧ Below w.heap.size w w' := by
  have HBS := Aside0.mk hBs
  have HSL := Aside0.mk hsl
  have HR0 := Aside0.mk hr0
  have HC0 := Aside0.mk hc0
  have HF := Aside0.mk h
  obtain ⟨S, hS⟩ : ∃ S : List Int, S = List.replicate 32 0 := ⟨_, rfl⟩
  have HSE := Aside0.mk hS
  have HS32 := Aside0.mk (show S.length = 32 by rw [hS]; simp)
  obtain ⟨D, hD⟩ : ∃ D : Array Value, D = #[.int .i64 0, .int .i64 0, .bool false, .int .i64 0] := ⟨_, rfl⟩
  have HDE := Aside0.mk hD
  have HDS := Aside0.mk (show D.size = 4 by rw [hD]; rfl)
  rw [← hS]
  clear hBs hsl hS hr0 hc0 h hD
  go_enter Try.func68, Try.ntmps68
  go_wp2_with (first | ((with_reducible refine gate_dst (N := 3) rfl ?_); refine L_box rfl 130 (.tmp 0) rfl (.agg (arr .u8 sec)) rfl ?_; intro g3 w1 hb3 hg3 hs3 hl3; have HB3 := Aside0.mk hb3; clear hb3; have HG3 := Aside0.mk hg3; clear hg3; have HS3 := Aside0.mk hs3; clear hs3; have HL3 := Aside0.mk hl3; clear hl3) | ((with_reducible refine gate_dst (N := 6) rfl ?_); refine L_alloc rfl 130 rfl (.agg (arr .u8 (List.replicate 32 0))) 32 (by kernel_rfl) ?_; intro g6 w2 hb6 hg6 hs6 hl6; have HB6 := Aside0.mk hb6; clear hb6; have HG6 := Aside0.mk hg6; clear hg6; have HS6 := Aside0.mk hs6; clear hs6; have HL6 := Aside0.mk hl6; clear hl6) | (go_at_call 58; refine (roster_Find.calls A0 c0 l id 0 0 false 0 false _ (Kd.C_below HR0.out (below_step HL3.out HL6.out)) HC0.out HF.out).mono ?_; rintro e w3 ⟨rfl, hb3f⟩; rw [← HDE.out]; have HB3F := Aside0.mk hb3f; clear hb3f) | ((with_reducible refine gate_dst (N := 8) rfl ?_); refine L_alloc rfl 115 rfl (.agg #[.int .i64 0, .int .i64 0, .bool false, .int .i64 0]) 4 (by kernel_rfl) ?_; intro g8 w4 hb8 hg8 hs8 hl8; have HB8 := Aside0.mk hb8; clear hb8; have HG8 := Aside0.mk hg8; clear hg8; have HS8 := Aside0.mk hs8; clear hs8; have HL8 := Aside0.mk hl8; clear hl8) | ((with_reducible refine gate_store (t := 115) (p := 8) rfl ?_); refine L_store rfl rfl 115 (.tmp 8) (.tmp 14) (by rfl) g8 (D) (by rfl) (by rfl) (#[.int .i64 0, .int .i64 0, .bool false, .int .i64 0]) 115 (HB8.out) (by rw [HDS.out] <;> rfl) (by rw [HDS.out] <;> kernel_rfl) (by rw [HDE.out, ← Array.all_toList]; rfl) ?_; intro w5 hbw5 huw5; have HBW5 := Aside0.mk hbw5; clear hbw5; have HUW5 := Aside0.mk huw5; clear huw5) | ((with_reducible refine gate_dst (N := 18) rfl ?_); refine L_build rfl 130 _ rfl (arr .u8 (List.replicate 32 0)) (by kernel_rfl) ?_) | ((with_reducible refine gate_store (t := 130) (p := 6) rfl ?_); refine L_store rfl rfl 130 (.tmp 6) (.tmp 18) (by rfl) g6 (arr .u8 (List.replicate 32 0)) (by rfl) (by rfl) (arr .u8 (List.replicate 32 0)) 130 (((HUW5.out.block g6 (by have := HG8.out; have := HB3F.out.size; have := blk_lt HB6.out; omega)).trans ((HL8.out.block g6 (Nat.lt_of_lt_of_le (blk_lt HB6.out) HB3F.out.size)).trans ((HB3F.out.block g6 (blk_lt HB6.out)).trans HB6.out)))) (by rfl) (by kernel_rfl) (arr_one _ _) ?_; intro w9 hbw9 huw9; have HBW9 := Aside0.mk hbw9; clear hbw9; have HUW9 := Aside0.mk huw9; clear huw9))
  exact ret_cell2 rfl rfl g6 rfl _ rfl (arr .u8 S) 130 _ (by rw [HSE.out]; exact HBW9.out) Try.underlying130 rfl (by rw [arr_size, HS32.out]; kernel_rfl) ⟨rfl, HUW9.out.below (HUW5.out.below (below_step (below_step (below_step HL3.out HL6.out) HB3F.out) HL8.out) (by have := HG8.out; have := HL3.out.size; have := HL6.out.size; have := HB3F.out.size; omega)) (by have := HG6.out; have := HL3.out.size; omega)⟩
end Go.Proofs.Ytdbfclfglpbpmaa.Rf
