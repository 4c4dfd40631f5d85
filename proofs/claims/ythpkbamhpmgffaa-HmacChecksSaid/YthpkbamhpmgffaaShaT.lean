/- Hand-written walks and plain lemmas of sha, hmac, keys: what each Go function comes to. No condition. -/
import Derived.Test.YthpkbamhpmgffaaShaS
import Derived.Test.YthpkbamhpmgffaaShaO
namespace Go.Proofs.Ythpkbamhpmgffaa.Sha
open Go.RowKit Go.Proofs.YthpkbamhpmgffaaW.Hand Go.Proofs.YthpkbamhpmgffaaW.PrintWords Go.Proofs.YthpkbamhpmgffaaW.PrintLast Go.Proofs.YthpkbamhpmgffaaW.PrintMore Go.Proofs.Ythpkbamhpmgffaa.PF02 Go.Proofs.Ythpkbamhpmgffaa.Base Go.Proofs.Ythpkbamhpmgffaa.LF02
set_option linter.unusedVariables false
set_option linter.unusedSimpArgs false

/-- The state behind the inner sum: the outer hash, the result's place, the inner sum. -/
def HSt2 (w wr : World) (g4 g7 g10 : Nat) (K all : List Int) : Prop :=
  HashOf wr w.heap.size g7 all ∧ wr.heap[g4]? = some (.cells (arr .u8 (List.replicate 32 0)) 38 (0, 0)) ∧ wr.heap[g10]? = some (.cells (arr .u8 K) 38 (0, 0)) ∧ Below w.heap.size w wr ∧ g4 ≠ g7 ∧ g10 ≠ g7 ∧ w.heap.size ≤ g7 ∧ w.heap.size = g4
theorem HSt2.below {w wr W : World} {g4 g7 g10 : Nat} {K all : List Int} (h : HSt2 w wr g4 g7 g10 K all) (hb : Below wr.heap.size wr W) : HSt2 w W g4 g7 g10 K all := by
  obtain ⟨h1, h2, h3, h4, h5⟩ := h
  exact ⟨h1.below hb, (hb.block _ (blk_lt h2)).trans h2, (hb.block _ (blk_lt h3)).trans h3, below_step h4 hb, h5⟩
theorem HSt2.write {w wr W : World} {g4 g7 g10 : Nat} {K all all' : List Int} (h : HSt2 w wr g4 g7 g10 K all) (h1 : HashOf W w.heap.size g7 all') (hb : Below w.heap.size wr W) (ho : Others wr W g7) : HSt2 w W g4 g7 g10 K all' := by
  obtain ⟨_, h2, h3, h4, h5, h6, h7⟩ := h
  exact ⟨h1, ho _ _ _ h5 (by decide) h2, ho _ _ _ h6 (by decide) h3, h4.trans hb, h5, h6, h7⟩

def hmacL (key : List Int) (ps : List (List Int)) : List Int := shaL (turnL (ownL key) 92 ++ shaL (turnL (ownL key) 54 ++ ps.flatten))
/-- The state of hmac.Sum's loop: the first hash, the second one, the array, the result's place. -/
def HSt (w wr : World) (g4 g5 g6 g7 : Nat) (own all : List Int) : Prop :=
  HashOf wr w.heap.size g6 all ∧ wr.heap[g4]? = some (.cells (arr .u8 (List.replicate 32 0)) 38 (0, 0)) ∧ wr.heap[g5]? = some (.cells (arr .u8 own) 53 (0, 0)) ∧ wr.heap[g7]? = some (.cells (hcells FS (.slice none 0 0) 0) 79 (0, 0)) ∧ Below w.heap.size w wr
theorem HSt.below {w wr W : World} {g4 g5 g6 g7 : Nat} {own all : List Int} (h : HSt w wr g4 g5 g6 g7 own all) (hb : Below wr.heap.size wr W) : HSt w W g4 g5 g6 g7 own all := by
  obtain ⟨h1, h2, h3, h4, h5⟩ := h
  exact ⟨h1.below hb, (hb.block _ (blk_lt h2)).trans h2, (hb.block _ (blk_lt h3)).trans h3, (hb.block _ (blk_lt h4)).trans h4, below_step h5 hb⟩
theorem HSt.write {w wr W : World} {g4 g5 g6 g7 : Nat} {own all all' : List Int} (h : HSt w wr g4 g5 g6 g7 own all) (hn : g4 ≠ g6 ∧ g5 ≠ g6 ∧ g7 ≠ g6) (h1 : HashOf W w.heap.size g6 all') (hb : Below w.heap.size wr W) (ho : Others wr W g6) : HSt w W g4 g5 g6 g7 own all' := by
  obtain ⟨_, h2, h3, h4, h5⟩ := h
  exact ⟨h1, ho _ _ _ hn.1 (by decide) h2, ho _ _ _ hn.2.1 (by decide) h3, ho _ _ _ hn.2.2 (by decide) h4, h5.trans hb⟩

theorem hst2_start {w w11 w12 : World} {g4 g5 g6 g7 g10 : Nat} {own all K : List Int} (h : HSt w w11 g4 g5 g6 g7 own all) (h10 : w12.heap[g10]? = some (.cells (arr .u8 K) 38 (0, 0))) (hu : Upd w11 w12 g10) (l4 : g4 < g10) (l5 : g5 < g10) (l7 : g7 < g10) (hn : g4 ≠ g6 ∧ g5 ≠ g6 ∧ g7 ≠ g6 ∧ w.heap.size ≤ g6 ∧ w.heap.size ≤ g7 ∧ w.heap.size = g4 ∧ g4 < g5 ∧ g5 < g7) : HSt2 w w12 g4 g7 g10 K [] := by
  obtain ⟨h1, h2, h3, h4, h5⟩ := h
  exact ⟨HashOf.new ((hu.block g7 (by omega)).trans h4) _, (hu.block g4 (by omega)).trans h2, h10, hu.below h5 (by omega), by omega, by omega, by omega, by omega⟩
theorem hmacL_length (key : List Int) (ps : List (List Int)) : (hmacL key ps).length = 32 := shaL_length _

theorem hst_start {w w4 w5 w6 : World} {g4 g5 g6 g7 : Nat} {own : List Int} (h4 : w4.heap[g4]? = some (.cells (arr .u8 (List.replicate 32 0)) 38 (0, 0))) (h5 : w4.heap[g5]? = some (.cells (arr .u8 own) 53 (0, 0))) (hbe : Below w.heap.size w w4) (h6 : w5.heap[g6]? = some (.cells (hcells FS (.slice none 0 0) 0) 79 (0, 0))) (hb5 : Below w4.heap.size w4 w5) (h7 : w6.heap[g7]? = some (.cells (hcells FS (.slice none 0 0) 0) 79 (0, 0))) (hb6 : Below w5.heap.size w5 w6) : HSt w w6 g4 g5 g6 g7 own [] :=
  ⟨HashOf.new ((hb6.block g6 (blk_lt h6)).trans h6) _, (hb6.block g4 (Nat.lt_of_lt_of_le (blk_lt h4) hb5.size)).trans ((hb5.block g4 (blk_lt h4)).trans h4), (hb6.block g5 (Nat.lt_of_lt_of_le (blk_lt h5) hb5.size)).trans ((hb5.block g5 (blk_lt h5)).trans h5), h7, below_step (below_step hbe hb5) hb6⟩
theorem hst_apart {w w4 w5 : World} {g4 g5 g6 g7 : Nat} {c4 c5 c6 : Array Value} (h4 : w4.heap[g4]? = some (.cells c4 38 (0, 0))) (h5 : w4.heap[g5]? = some (.cells c5 53 (0, 0))) (h6 : w4.heap.size ≤ g6) (h7 : w5.heap.size ≤ g7) (h6b : w5.heap[g6]? = some (.cells c6 79 (0, 0))) (hbe : Below w.heap.size w w4) (hb5 : Below w4.heap.size w4 w5) (hg4 : w.heap.size = g4) (h45 : g4 < g5) :
    g4 ≠ g6 ∧ g5 ≠ g6 ∧ g7 ≠ g6 ∧ w.heap.size ≤ g6 ∧ w.heap.size ≤ g7 ∧ w.heap.size = g4 ∧ g4 < g5 ∧ g5 < g7 := by
  have l4 := blk_lt h4
  have l5 := blk_lt h5
  have l6 := blk_lt h6b
  have s5 := hb5.size
  have sb := hbe.size
  refine ⟨?_, ?_, ?_, ?_, ?_, ?_, ?_, ?_⟩ <;> omega

theorem flat_le (ps : List (List Int)) (h : ∀ x ∈ ps, x.length ≤ 100000) (k : Nat) : (ps.take k).flatten.length ≤ 100000 * k := by
  induction k with
  | zero => simp
  | succ k ih =>
    rcases Nat.lt_or_ge k ps.length with hk | hk
    · rw [List.take_succ_eq_append_getElem hk, List.flatten_append, List.length_append]
      have := h _ (List.getElem_mem hk)
      rw [show [ps[k]].flatten = ps[k] by simp]
      omega
    · rw [List.take_of_length_le (by omega)] at ih ⊢
      omega
theorem flat_bytes (ps : List (List Int)) (h : ∀ x ∈ ps, Bytes x) (k : Nat) : Bytes (ps.take k).flatten := by
  intro y hy
  obtain ⟨x, hx, hyx⟩ := List.mem_flatten.1 hy
  exact h x (List.mem_of_mem_take hx) y hyx
set_option maxHeartbeats 8000000 in
set_option maxRecDepth 100000 in
theorem HmacSum_calls (A : Option Addr) (c : Nat) (key : List Int) (A2 : Option Addr) (c2 : Nat) (ps : List (List Int)) (w : World) (hC : Kd.C (Kd.int .u8) w A key.length key) (hcc : key.length ≤ c) (hB : Bytes key) (hlk : key.length ≤ 1000000) (hC2 : Kd.C (Kd.slice 5 (Kd.int .u8)) w A2 ps.length ps) (hcc2 : ps.length ≤ c2) (hBp : ∀ x ∈ ps, Bytes x) (hlp : ps.length ≤ 1000) (hlq : ∀ x ∈ ps, x.length ≤ 100000) :
    Calls Try.prog 28 #[.slice A key.length c, .slice A2 ps.length c2] w fun e w' => e = .returned (.agg (arr .u8 (hmacL key ps))) ∧ Below w.heap.size w w' := by
  have HC := Aside0.mk hC
  have HC2 := Aside0.mk hC2
  have HBK := Aside0.mk hB
  have HBP := Aside0.mk hBp
  have HLQ := Aside0.mk hlq
  clear hC hC2 hB hBp hlq
  go_enter Try.func28, Try.ntmps28
  go_wp2_with (first | ((with_reducible refine gate_dst (N := 4) rfl ?_); refine L_alloc rfl 38 rfl (.agg (arr .u8 (List.replicate 32 0))) 32 (by kernel_rfl) ?_; intro g4 w1 hb4 hg4 hs4 hl4; have HB4 := Aside0.mk hb4; clear hb4; have HG4 := Aside0.mk hg4; clear hg4; have HS4 := Aside0.mk hs4; clear hs4; have HL4 := Aside0.mk hl4; clear hl4) | (go_at_call 30; refine (Own_calls A c key _ (Kd.C_below HC.out HL4.out) hcc HBK.out (by omega)).mono ?_; rintro e w2 ⟨rfl, hb2⟩; have HB2 := Aside0.mk hb2; clear hb2) | ((with_reducible refine gate_dst (N := 5) rfl ?_); refine L_alloc rfl 53 rfl (.agg (arr .u8 (List.replicate 64 0))) 64 (by kernel_rfl) ?_; intro g5 w3 hb5 hg5 hs5 hl5; have HB5 := Aside0.mk hb5; clear hb5; have HG5 := Aside0.mk hg5; clear hg5; have HS5 := Aside0.mk hs5; clear hs5; have HL5 := Aside0.mk hl5; clear hl5) | (refine L_store rfl rfl 53 (.tmp 5) (.tmp 12) (by rfl) g5 (arr .u8 (ownL key)) (by rfl) (by rfl) (arr .u8 (List.replicate 64 0)) 53 (HB5.out) (by rw [arr_size, arr_size, ownL_length]; rfl) (by rw [arr_size, ownL_length]; kernel_rfl) (arr_one _ _) ?_; intro w4 hbw4 huw4; have HBW4 := Aside0.mk hbw4; clear hbw4; have HUW4 := Aside0.mk huw4; clear huw4; have HP := Aside0.mk (And.intro ((HUW4.out.block g4 (by have := HG5.out; have := blk_lt HB4.out; have := HB2.out.size; omega)).trans ((HL5.out.block g4 (by have := blk_lt HB4.out; have := HB2.out.size; omega)).trans ((HB2.out.block g4 (blk_lt HB4.out)).trans HB4.out))) (And.intro HBW4.out (And.intro (HUW4.out.below (below_step (below_step HL4.out HB2.out) HL5.out) (by have := HG5.out; have := HL4.out.size; have := HB2.out.size; omega)) (And.intro HG4.out (show g4 < g5 from (by have := HG5.out; have := blk_lt HB4.out; have := HB2.out.size; omega)))))); clear HB2 HB5 HG5 HS5 HL5 HBW4 HUW4 HB4 HG4 HS4 HL4) | (go_at_call 23; have _t := HG6.out; refine (New_calls _).mono ?_; rintro e w6 ⟨g7, rfl, hg, hgl, hb5⟩; have HG7 := Aside0.mk hg; have HGL7 := Aside0.mk hgl; have HB7 := Aside0.mk hb5; clear hg hgl hb5; have HS6 := Aside0.mk (hst_start HP.out.1 HP.out.2.1 HP.out.2.2.1 HG6.out HB6.out HG7.out HB7.out); have HN := Aside0.mk (hst_apart HP.out.1 HP.out.2.1 HGL6.out HGL7.out HG6.out HP.out.2.2.1 HB6.out HP.out.2.2.2.1 HP.out.2.2.2.2); clear HG6 HGL6 HB6 HG7 HGL7 HB7) | (go_at_call 23; refine (New_calls _).mono ?_; rintro e w5 ⟨g6, rfl, hg, hgl, hb5⟩; have HG6 := Aside0.mk hg; have HGL6 := Aside0.mk hgl; have HB6 := Aside0.mk hb5; clear hg hgl hb5) | ((with_reducible refine gate_dst (N := 16) rfl ?_); refine L_load rfl 53 (.tmp 5) rfl g5 rfl 53 (arr .u8 (ownL key)) _ (HS6.out.2.2.1) Try.underlying53 rfl (by rw [arr_size, ownL_length]; kernel_rfl) ?_) | (go_at_call 51; refine (turned_calls (ownL key) (ownL_length key) 54 _).mono ?_; rintro e w7 ⟨At, rfl, hCt, hb7⟩; have HCT := Aside0.mk hCt; have HS7 := Aside0.mk (HS6.out.below hb7); have HBX7 := Aside0.mk hb7; clear hCt hb7) | (go_at_call 24; refine (calls_of_args (args' := #[.pointer (some ⟨g6, 0, none⟩), .slice At (turnL (ownL key) 54).length 64]) (by rw [turnL_length, ownL_length]) (WriteH_calls g6 [] (turnL (ownL key) 54) At 64 w.heap.size w7 HS7.out.1 HN.out.2.2.2.1 HS7.out.2.2.2.2.size (fun x hx => by cases hx) HCT.out (by rw [turnL_length, ownL_length]; omega) (turnL_bytes _ _) (by rw [turnL_length, ownL_length]; simp))).mono ?_; rintro e w8 ⟨rfl, hh8, hb8, ho8⟩; rw [List.nil_append] at hh8; have HS8 := Aside0.mk (HS7.out.write ⟨HN.out.1, HN.out.2.1, HN.out.2.2.1⟩ hh8 hb8 ho8); clear hh8 hb8 ho8))
  clear HP HS6 HBX7 HS7 HCT
  have hI : Aside0 (HSt w w8 g4 g5 g6 g7 (ownL key) (turnL (ownL key) 54 ++ (ps.take 0).flatten)) := ⟨by simpa using HS8.out⟩
  clear HS8
  go_loopw [21] (fun i wr => ∃ k : Nat, k ≤ ps.length ∧ i = .int .i64 k ∧ Aside0 (HSt w wr g4 g5 g6 g7 (ownL key) (turnL (ownL key) 54 ++ (ps.take k).flatten))) (fun i _ => ps.length - (intOf i).toNat)
  case atStart => exact ⟨0, by omega, rfl, hI⟩
  case round =>
    clear hI
    obtain ⟨k, hk, rfl, HR⟩ := hrel
    have hfl : (ps.take k).flatten.length ≤ 100000 * k := flat_le ps HLQ.out k
    have hfb : Bytes (ps.take k).flatten := flat_bytes ps HBP.out k
    by_cases hlt : k < ps.length
    · obtain ⟨ad, A', c', rfl, hcell0, hle, hCk⟩ := rows_at HC2.out k hlt
      have hcell := pw_cell_below HR.out.2.2.2.2 hcell0
      have hBk : Bytes ps[k] := HBP.out _ (List.getElem_mem hlt)
      have hpl : ps[k].length ≤ 100000 := HLQ.out _ (List.getElem_mem hlt)
      obtain ⟨p, hp⟩ : ∃ p, p = ps[k] := ⟨_, rfl⟩
      rw [← hp] at hcell hcell0 hle hCk hBk hpl
      have HX := Aside0.mk (And.intro hp (And.intro hfb (And.intro hBk hCk)))
      clear hp hfb hBk hCk hcell0
      go_wp2_with (go_at_call 24; refine (WriteH_calls g6 (turnL (ownL key) 54 ++ (ps.take k).flatten) p A' c' w.heap.size _ HR.out.1 HN.out.2.2.2.1 HR.out.2.2.2.2.size ((turnL_bytes _ _).append HX.out.2.1) (Kd.C_below HX.out.2.2.2 HR.out.2.2.2.2) hle HX.out.2.2.1 (by rw [List.length_append, turnL_length, ownL_length]; omega)).mono ?_; rintro e w9 ⟨rfl, hh9, hb9, ho9⟩; have HS9 := Aside0.mk (HR.out.write ⟨HN.out.1, HN.out.2.1, HN.out.2.2.1⟩ hh9 hb9 ho9); clear hh9 hb9 ho9)
      go_roundw
      case rel =>
        have e : turnL (ownL key) 54 ++ (ps.take (k + 1)).flatten = turnL (ownL key) 54 ++ (ps.take k).flatten ++ p := by
          rw [HX.out.1, List.take_succ_eq_append_getElem hlt, List.flatten_append, List.append_assoc]
          simp
        exact ⟨k + 1, by omega, by go_num, ⟨by rw [e]; exact HS9.out⟩⟩
      case measure => simp [intOf]; omega
    · obtain rfl : k = ps.length := by omega
      have HS9 : Aside0 (HSt w wr g4 g5 g6 g7 (ownL key) (turnL (ownL key) 54 ++ ps.flatten)) := ⟨by have := HR.out; rwa [List.take_of_length_le (Nat.le_refl _)] at this⟩
      rw [List.take_of_length_le (Nat.le_refl _)] at hfl hfb
      have HFB := Aside0.mk hfb
      have HHL := Aside0.mk (hmacL_length key ps)
      clear HR hfb
      go_wp2_with (first | (go_at_call 25; have _t := HT17.out; refine (SumH_calls g7 (turnL (ownL key) 92 ++ shaL (turnL (ownL key) 54 ++ ps.flatten)) w.heap.size _ HT17.out.1 ((turnL_bytes _ _).append (shaL_bytes _)) (by rw [List.length_append, turnL_length, ownL_length, shaL_length]; omega)).mono ?_; rintro e w18 ⟨rfl, hb⟩; have HT17 := Aside0.mk (HT17.out.below hb); clear hb) | (go_at_call 25; refine (SumH_calls g6 (turnL (ownL key) 54 ++ ps.flatten) w.heap.size _ HS9.out.1 ((turnL_bytes _ _).append HFB.out) (by rw [List.length_append, turnL_length, ownL_length]; omega)).mono ?_; rintro e w10 ⟨rfl, hb⟩; have HT10 := Aside0.mk (HS9.out.below hb); clear hb) | ((with_reducible refine gate_dst (N := 10) rfl ?_); refine L_alloc rfl 38 rfl (.agg (arr .u8 (List.replicate 32 0))) 32 (by kernel_rfl) ?_; intro g10 w11 hb10 hg10 hs10 hl10; have HB10 := Aside0.mk hb10; clear hb10; have HG10 := Aside0.mk hg10; clear hg10; have HS10 := Aside0.mk hs10; clear hs10; have HL10 := Aside0.mk hl10; clear hl10) | (refine L_store rfl rfl 38 (.tmp 10) (.tmp 30) (by rfl) g10 (arr .u8 (shaL (turnL (ownL key) 54 ++ ps.flatten))) (by rfl) (by rfl) (arr .u8 (List.replicate 32 0)) 38 (HB10.out) (by rw [arr_size, arr_size, shaL_length]; rfl) (by rw [arr_size, shaL_length]; kernel_rfl) (arr_one _ _) ?_; intro w12 hbw12 huw12; have HBW12 := Aside0.mk hbw12; clear hbw12; have HUW12 := Aside0.mk huw12; clear huw12; have HT12 := Aside0.mk (hst2_start (HT10.out.below HL10.out) HBW12.out HUW12.out (Nat.le_trans (blk_lt HT10.out.2.1) (Nat.le_of_eq HG10.out)) (Nat.le_trans (blk_lt HT10.out.2.2.1) (Nat.le_of_eq HG10.out)) (Nat.le_trans (blk_lt HT10.out.2.2.2.1) (Nat.le_of_eq HG10.out)) HN.out); have HOW := Aside0.mk ((HUW12.out.block g5 (Nat.ne_of_lt (Nat.lt_of_lt_of_le (blk_lt HT10.out.2.2.1) (Nat.le_of_eq HG10.out)))).trans (HT10.out.below HL10.out).2.2.1)) | ((with_reducible refine gate_dst (N := 32) rfl ?_); refine L_load rfl 53 (.tmp 5) rfl g5 rfl 53 (arr .u8 (ownL key)) _ (HOW.out) Try.underlying53 rfl (by rw [arr_size, ownL_length]; kernel_rfl) ?_) | (go_at_call 51; refine (turned_calls (ownL key) (ownL_length key) 92 _).mono ?_; rintro e w13 ⟨At2, rfl, hCt, hb⟩; have HCT2 := Aside0.mk hCt; have HT13 := Aside0.mk (HT12.out.below hb); clear hCt hb) | (go_at_call 24; have _t := HT15.out; refine (calls_of_args (args' := #[.pointer (some ⟨g7, 0, none⟩), .slice (some ⟨g10, 0, none⟩) (shaL (turnL (ownL key) 54 ++ ps.flatten)).length 32]) (by rw [shaL_length]) (WriteH_calls g7 (turnL (ownL key) 92) (shaL (turnL (ownL key) 54 ++ ps.flatten)) (some ⟨g10, 0, none⟩) 32 w.heap.size w15 HT15.out.1 HT15.out.2.2.2.2.2.2.1 HT15.out.2.2.2.1.size (turnL_bytes _ _) (C_arr HT15.out.2.2.1 (by rw [shaL_length]; omega)) (by rw [shaL_length]; omega) (shaL_bytes _) (by rw [turnL_length, ownL_length, shaL_length]; omega))).mono ?_; rintro e w17 ⟨rfl, hh, hb, ho⟩; have HT17 := Aside0.mk (HT15.out.write hh hb ho); clear hh hb ho) | (go_at_call 24; refine (calls_of_args (args' := #[.pointer (some ⟨g7, 0, none⟩), .slice At2 (turnL (ownL key) 92).length 64]) (by rw [turnL_length, ownL_length]) (WriteH_calls g7 [] (turnL (ownL key) 92) At2 64 w.heap.size w13 HT13.out.1 HT13.out.2.2.2.2.2.2.1 HT13.out.2.2.2.1.size (fun x hx => by cases hx) HCT2.out (by rw [turnL_length, ownL_length]; omega) (turnL_bytes _ _) (by rw [turnL_length, ownL_length]; simp))).mono ?_; rintro e w15 ⟨rfl, hh, hb, ho⟩; rw [List.nil_append] at hh; have HT15 := Aside0.mk (HT13.out.write hh hb ho); clear hh hb ho) | (refine L_store rfl rfl 38 (.tmp 4) (.tmp 39) (by rfl) g4 (arr .u8 (hmacL key ps)) (by rfl) (by rfl) (arr .u8 (List.replicate 32 0)) 38 (HT17.out.2.1) (by rw [arr_size, arr_size, HHL.out]; rfl) (by rw [arr_size, HHL.out]; kernel_rfl) (arr_one _ _) ?_; intro w20 hbw20 huw20; have HBW20 := Aside0.mk hbw20; clear hbw20; have HUW20 := Aside0.mk huw20; clear huw20))
      exact ret_cell rfl rfl g4 rfl (arr .u8 (hmacL key ps)) 38 _ HBW20.out Try.underlying38 rfl (by rw [arr_size, HHL.out]; kernel_rfl) ⟨rfl, HUW20.out.below HT17.out.2.2.2.1 (Nat.le_of_eq HN.out.2.2.2.2.2.1)⟩
end Go.Proofs.Ythpkbamhpmgffaa.Sha
