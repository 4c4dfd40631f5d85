/- Hand-written walks and plain lemmas of sha, hmac, keys: what each Go function comes to. No condition. -/
import Derived.Test.YthpkbamhpmgffaaShaW
import Derived.Laws.BitsLemmas
namespace Go.Proofs.Ythpkbamhpmgffaa.Sha
open Go.RowKit Go.Proofs.YthpkbamhpmgffaaW.Hand Go.Proofs.YthpkbamhpmgffaaW.PrintWords Go.Proofs.YthpkbamhpmgffaaW.PrintLast Go.Proofs.YthpkbamhpmgffaaW.PrintMore Go.Proofs.Ythpkbamhpmgffaa.PF02 Go.Proofs.Ythpkbamhpmgffaa.Base Go.Proofs.Ythpkbamhpmgffaa.LF02
set_option linter.unusedVariables false
set_option linter.unusedSimpArgs false

/-! ### hmac.Same, Check -/
theorem w8 (n : Int) (h0 : 0 ≤ n) (h1 : n < 2 ^ 8) : IntKind.u8.wrap n = n := by
  rw [IntKind.wrap_u8]
  omega
theorem xor_u8_nat (a b : Nat) (ha : a < 256) (hb : b < 256) : Go.bits .xor .u8 (a : Int) (b : Int) = ((a ^^^ b : Nat) : Int) := by
  have hx : a ^^^ b < 2 ^ 8 := Nat.xor_lt_two_pow (by omega) (by omega)
  have h1 : (BitVec.ofInt 8 (a : Int)).toNat = a := by
    rw [BitVec.ofInt_natCast, BitVec.toNat_ofNat]; exact Nat.mod_eq_of_lt (by omega)
  have h2 : (BitVec.ofInt 8 (b : Int)).toNat = b := by
    rw [BitVec.ofInt_natCast, BitVec.toNat_ofNat]; exact Nat.mod_eq_of_lt (by omega)
  show IntKind.u8.wrap ((BitVec.ofInt 8 (a : Int) ^^^ BitVec.ofInt 8 (b : Int)).toNat : Int) = _
  rw [BitVec.toNat_xor, h1, h2, IntKind.wrap_u8]
  omega
theorem diff_zero {s x y : Int} (hs : 0 ≤ s ∧ s ≤ 255) (hx : 0 ≤ x ∧ x ≤ 255) (hy : 0 ≤ y ∧ y ≤ 255) : Go.bits .or .u8 s (Go.bits .xor .u8 x y) = 0 ↔ (s = 0 ∧ x = y) := by
  obtain ⟨a, rfl⟩ := Int.eq_ofNat_of_zero_le hs.1
  obtain ⟨b, rfl⟩ := Int.eq_ofNat_of_zero_le hx.1
  obtain ⟨c, rfl⟩ := Int.eq_ofNat_of_zero_le hy.1
  have hxl : b ^^^ c < 2 ^ 8 := Nat.xor_lt_two_pow (by omega) (by omega)
  rw [xor_u8_nat b c (by omega) (by omega), (bits_nat .u8 8 (by decide) w8 a (b ^^^ c) (by omega) hxl).2]
  constructor
  · intro h
    have h0 : a ||| (b ^^^ c) = 0 := by exact_mod_cast h
    rw [Nat.or_eq_zero_iff] at h0
    have hbc : b = c := by
      have := congrArg (· ^^^ c) h0.2
      simp only [Nat.xor_assoc, Nat.xor_self, Nat.xor_zero, Nat.zero_xor] at this
      exact this
    exact ⟨by rw [h0.1]; rfl, by rw [hbc]⟩
  · rintro ⟨h1, h2⟩
    have e1 : a = 0 := by exact_mod_cast h1
    have e2 : b = c := by exact_mod_cast h2
    subst e1 e2
    simp
theorem hSame_l0 (a b : List Int) (ha : Bytes a) (hb : Bytes b) (h : a.length = b.length) (hl : a.length ≤ 9000000000000000000) : ∀ (d i : Nat) (s : Int), a.length - i = d → i ≤ a.length → 0 ≤ s ∧ s ≤ 255 → Ev (fun k => hmac_Same.l0 k a b s (a.length : Int) (i : Int)) (decide (s = 0 ∧ a.drop i = b.drop i)) := by
  intro d
  induction d with
  | zero =>
    intro i s hd hi hs
    obtain rfl : i = a.length := by omega
    apply ev_succ
    simp only [hmac_Same.l0, if_neg (show ¬ ((a.length : Int) < (a.length : Int)) by omega)]
    refine ev_eq (ev_some _) ?_
    have e : a.drop a.length = b.drop a.length := by simp [h]
    simp only [e, and_true]
    rw [Bool.eq_iff_iff]
    simp
  | succ d ih =>
    intro i s hd hi hs
    have hlt : i < a.length := by omega
    have hltb : i < b.length := by omega
    have hw : wrap64 ((i : Int) + 1) = ((i + 1 : Nat) : Int) := by rw [w64 (by omega) (by omega)]; omega
    apply ev_succ
    simp only [hmac_Same.l0, if_pos (show (i : Int) < (a.length : Int) by omega), if_pos (show (0 : Int) ≤ (i : Int) by omega), if_pos (show (i : Int) < (b.length : Int) by omega), rd_lt hlt, rd_lt hltb, hw]
    have key : (a.drop i = b.drop i) ↔ (a[i] = b[i] ∧ a.drop (i + 1) = b.drop (i + 1)) := by
      rw [List.drop_eq_getElem_cons hlt, List.drop_eq_getElem_cons hltb]
      exact List.cons_eq_cons
    refine ev_eq (ih (i + 1) _ (by omega) (by omega) (bits_u8 _ _ _)) ?_
    have dz := diff_zero hs (ha _ (List.getElem_mem hlt)) (hb _ (List.getElem_mem hltb))
    rw [decide_eq_decide, dz, key, and_assoc]
theorem hSame_ev (a b : List Int) (ha : Bytes a) (hb : Bytes b) (hl : a.length ≤ 9000000000000000000) : Ev (fun k => hmac_Same.f k a b) (decide (a = b)) := by
  unfold hmac_Same.f
  by_cases h : a.length = b.length
  · simp only [if_pos (show (a.length : Int) = (b.length : Int) by omega)]
    exact ev_eq (hSame_l0 a b ha hb h hl a.length 0 0 (by omega) (by omega) (by omega)) (by simp)
  · simp only [if_neg (show ¬ ((a.length : Int) = (b.length : Int)) by omega)]
    exact ev_eq (ev_some _) (by simp; intro e; exact h (by rw [e]))
theorem hSame_calls (A : Option Addr) (c : Nat) (xs : List Int) (A1 : Option Addr) (c1 : Nat) (ys : List Int) (r : Bool) (w : World) (hC : Kd.C (Kd.int .u8) w A xs.length xs) (hcc : xs.length ≤ c) (hB : Bytes xs) (hC1 : Kd.C (Kd.int .u8) w A1 ys.length ys) (hcc1 : ys.length ≤ c1) (hB1 : Bytes ys) (hl : xs.length ≤ 1000000000000000000) (hr : decide (xs = ys) = r) : Calls Try.prog 32 #[.slice A xs.length c, .slice A1 ys.length c1] w fun e w' => e = .returned (.bool r) ∧ Below w.heap.size w w' := by
  obtain ⟨k, hk⟩ := (hSame_ev xs ys hB hB1 (by omega)).rounds
  refine (hmac_Same.calls k A c xs A1 c1 ys _ w hC hcc hC1 hcc1 hk).mono fun e w' ⟨h1, h2⟩ => ?_
  obtain ⟨m, rfl⟩ := h2.out
  exact ⟨by rw [h1, hr], pw_below_drewN (Below.refl _ _) m⟩
theorem sameB_calls (A : Option Addr) (c : Nat) (xs : List Int) (A1 : Option Addr) (c1 : Nat) (ys : List Int) (r : Bool) (w : World) (hC : Kd.C (Kd.int .u8) w A xs.length xs) (hcc : xs.length ≤ c) (hC1 : Kd.C (Kd.int .u8) w A1 ys.length ys) (hcc1 : ys.length ≤ c1) (hl : xs.length ≤ 1000000000000000000) (hr : decide (xs = ys) = r) : Calls Try.prog 18 #[.slice A xs.length c, .slice A1 ys.length c1] w fun e w' => e = .returned (.bool r) ∧ Below w.heap.size w w' := by
  refine (same_calls A c xs A1 c1 ys w hC hcc hC1 hcc1 hl).mono ?_
  rintro e w' ⟨rfl, m, rfl⟩
  exact ⟨by rw [hr], pw_below_drewN (Below.refl _ _) m⟩
theorem hmacL_bytes (key : List Int) (ps : List (List Int)) : Bytes (hmacL key ps) := shaL_bytes _
set_option maxHeartbeats 8000000 in
set_option maxRecDepth 100000 in
theorem Check_calls (A : Option Addr) (c : Nat) (key : List Int) (tag : List Int) (A2 : Option Addr) (c2 : Nat) (ps : List (List Int)) (r : Int) (w : World) (hC : Kd.C (Kd.int .u8) w A key.length key) (hcc : key.length ≤ c) (hB : Bytes key) (hlk : key.length ≤ 1000000) (htl : tag.length = 32) (hBt : Bytes tag) (hC2 : Kd.C (Kd.slice 5 (Kd.int .u8)) w A2 ps.length ps) (hcc2 : ps.length ≤ c2) (hBp : ∀ x ∈ ps, Bytes x) (hlp : ps.length ≤ 1000) (hlq : ∀ x ∈ ps, x.length ≤ 100000) (hr : (if hmacL key ps = tag then 0 else 8) = r) :
    Calls Try.prog 31 #[.slice A key.length c, .agg (arr .u8 tag), .slice A2 ps.length c2] w fun e w' => e = .returned (.int .i64 r) ∧ Below w.heap.size w w' := by
  have HC := Aside0.mk hC
  have HC2 := Aside0.mk hC2
  have HBK := Aside0.mk hB
  have HBT := Aside0.mk hBt
  have HBP := Aside0.mk hBp
  have HLQ := Aside0.mk hlq
  have HTL := Aside0.mk htl
  obtain ⟨S, hS⟩ : ∃ S, S = hmacL key ps := ⟨_, rfl⟩
  have hSl : S.length = 32 := by rw [hS]; exact hmacL_length _ _
  have HSL := Aside0.mk hSl
  have HSB := Aside0.mk (show Bytes S by rw [hS]; exact hmacL_bytes _ _)
  have HSE := Aside0.mk hS
  rw [← hS] at hr
  clear hC hC2 hB hBt hBp hlq htl hS hSl
  by_cases he : S = tag
  · rw [if_pos he] at hr
    subst hr
    have HD := Aside0.mk (decide_eq_true he)
    clear he
    go_enter Try.func31, Try.ntmps31
    go_wp2_with (first | ((with_reducible refine gate_dst (N := 4) rfl ?_); refine L_box rfl 38 (.tmp 1) rfl (.agg (arr .u8 tag)) rfl ?_; intro g4 w4b hb4 hg4 hs4 hl4; have HB4 := Aside0.mk hb4; clear hb4; have HG4 := Aside0.mk hg4; clear hg4; have HS4 := Aside0.mk hs4; clear hs4; have HL4 := Aside0.mk hl4; clear hl4) | (go_at_call 28; refine (HmacSum_calls A c key A2 c2 ps _ (Kd.C_below HC.out HL4.out) hcc HBK.out hlk (Kd.C_below HC2.out HL4.out) hcc2 HBP.out hlp HLQ.out).mono ?_; rintro e w1 ⟨rfl, hb1⟩; rw [← HSE.out]; have HB1 := Aside0.mk hb1; clear hb1) | ((with_reducible refine gate_dst (N := 7) rfl ?_); refine L_alloc rfl 38 rfl (.agg (arr .u8 (List.replicate 32 0))) 32 (by kernel_rfl) ?_; intro g7 w5 hb7 hg7 hs7 hl7; have HB7 := Aside0.mk hb7; clear hb7; have HG7 := Aside0.mk hg7; clear hg7; have HS7 := Aside0.mk hs7; clear hs7; have HL7 := Aside0.mk hl7; clear hl7) | (refine L_store rfl rfl 38 (.tmp 7) (.tmp 10) (by rfl) g7 (arr .u8 S) (by rfl) (by rfl) (arr .u8 (List.replicate 32 0)) 38 (HB7.out) (by rw [arr_size, arr_size, HSL.out]; rfl) (by rw [arr_size, HSL.out]; kernel_rfl) (arr_one _ _) ?_; intro w6 hbw6 huw6; have HBW6 := Aside0.mk hbw6; clear hbw6; have HUW6 := Aside0.mk huw6; clear huw6))
    have hb6 : Below w.heap.size w w6 := HUW6.out.below (below_step (below_step HL4.out HB1.out) HL7.out) (by have := HG7.out; have := HL4.out.size; have := HB1.out.size; omega)
    have hx4 : w6.heap[g4]? = some (.cells (arr .u8 tag) 38 (0, 0)) := (HUW6.out.block g4 (by have := HG7.out; have := blk_lt HB4.out; have := HB1.out.size; omega)).trans ((HL7.out.block g4 (Nat.lt_of_lt_of_le (blk_lt HB4.out) HB1.out.size)).trans ((HB1.out.block g4 (blk_lt HB4.out)).trans HB4.out))
    have HB6 := Aside0.mk hb6
    have hcall : ∀ W, Kd.C (Kd.int .u8) W (some ⟨g7, 0, none⟩) S.length S → Kd.C (Kd.int .u8) W (some ⟨g4, 0, none⟩) tag.length tag → Calls Try.prog 32 #[.slice (some ⟨g7, 0, none⟩) 32 32, .slice (some ⟨g4, 0, none⟩) 32 32] W fun e w' => e = .returned (.bool true) ∧ Below W.heap.size W w' := by
      intro W h1 h2
      have := hSame_calls (some ⟨g7, 0, none⟩) 32 S (some ⟨g4, 0, none⟩) 32 tag true W h1 (by rw [HSL.out]; omega) HSB.out h2 (by rw [HTL.out]; omega) HBT.out (by rw [HSL.out]; omega) HD.out
      rw [HSL.out, HTL.out] at this
      exact this
    have HCALL := Aside0.mk hcall
    have HC7 := Aside0.mk (C_arr (xs := S) HBW6.out (by rw [HSL.out]; omega))
    have HC4 := Aside0.mk (C_arr (xs := tag) hx4 (by rw [HTL.out]; omega))
    clear hb6 hx4 hcall HB4 HG4 HS4 HL4 HB1 HB7 HG7 HS7 HL7 HBW6 HUW6
    go_region_with ((go_at_call 32; refine (HCALL.out _ (by first | with_reducible exact Kd.C_drew HC7.out | with_reducible exact HC7.out) (by first | with_reducible exact Kd.C_drew HC4.out | with_reducible exact HC4.out)).mono ?_; rintro e w9 ⟨rfl, hb9⟩; have HB9 := Aside0.mk hb9; clear hb9))
    go_wp2
    go_ret
    exact ⟨rfl, below_step (below_drew HB6.out) HB9.out⟩
  · rw [if_neg he] at hr
    subst hr
    have HD := Aside0.mk (decide_eq_false he)
    clear he
    go_enter Try.func31, Try.ntmps31
    go_wp2_with (first | ((with_reducible refine gate_dst (N := 4) rfl ?_); refine L_box rfl 38 (.tmp 1) rfl (.agg (arr .u8 tag)) rfl ?_; intro g4 w4b hb4 hg4 hs4 hl4; have HB4 := Aside0.mk hb4; clear hb4; have HG4 := Aside0.mk hg4; clear hg4; have HS4 := Aside0.mk hs4; clear hs4; have HL4 := Aside0.mk hl4; clear hl4) | (go_at_call 28; refine (HmacSum_calls A c key A2 c2 ps _ (Kd.C_below HC.out HL4.out) hcc HBK.out hlk (Kd.C_below HC2.out HL4.out) hcc2 HBP.out hlp HLQ.out).mono ?_; rintro e w1 ⟨rfl, hb1⟩; rw [← HSE.out]; have HB1 := Aside0.mk hb1; clear hb1) | ((with_reducible refine gate_dst (N := 7) rfl ?_); refine L_alloc rfl 38 rfl (.agg (arr .u8 (List.replicate 32 0))) 32 (by kernel_rfl) ?_; intro g7 w5 hb7 hg7 hs7 hl7; have HB7 := Aside0.mk hb7; clear hb7; have HG7 := Aside0.mk hg7; clear hg7; have HS7 := Aside0.mk hs7; clear hs7; have HL7 := Aside0.mk hl7; clear hl7) | (refine L_store rfl rfl 38 (.tmp 7) (.tmp 10) (by rfl) g7 (arr .u8 S) (by rfl) (by rfl) (arr .u8 (List.replicate 32 0)) 38 (HB7.out) (by rw [arr_size, arr_size, HSL.out]; rfl) (by rw [arr_size, HSL.out]; kernel_rfl) (arr_one _ _) ?_; intro w6 hbw6 huw6; have HBW6 := Aside0.mk hbw6; clear hbw6; have HUW6 := Aside0.mk huw6; clear huw6))
    have hb6 : Below w.heap.size w w6 := HUW6.out.below (below_step (below_step HL4.out HB1.out) HL7.out) (by have := HG7.out; have := HL4.out.size; have := HB1.out.size; omega)
    have hx4 : w6.heap[g4]? = some (.cells (arr .u8 tag) 38 (0, 0)) := (HUW6.out.block g4 (by have := HG7.out; have := blk_lt HB4.out; have := HB1.out.size; omega)).trans ((HL7.out.block g4 (Nat.lt_of_lt_of_le (blk_lt HB4.out) HB1.out.size)).trans ((HB1.out.block g4 (blk_lt HB4.out)).trans HB4.out))
    have HB6 := Aside0.mk hb6
    have hcall : ∀ W, Kd.C (Kd.int .u8) W (some ⟨g7, 0, none⟩) S.length S → Kd.C (Kd.int .u8) W (some ⟨g4, 0, none⟩) tag.length tag → Calls Try.prog 32 #[.slice (some ⟨g7, 0, none⟩) 32 32, .slice (some ⟨g4, 0, none⟩) 32 32] W fun e w' => e = .returned (.bool false) ∧ Below W.heap.size W w' := by
      intro W h1 h2
      have := hSame_calls (some ⟨g7, 0, none⟩) 32 S (some ⟨g4, 0, none⟩) 32 tag false W h1 (by rw [HSL.out]; omega) HSB.out h2 (by rw [HTL.out]; omega) HBT.out (by rw [HSL.out]; omega) HD.out
      rw [HSL.out, HTL.out] at this
      exact this
    have HCALL := Aside0.mk hcall
    have HC7 := Aside0.mk (C_arr (xs := S) HBW6.out (by rw [HSL.out]; omega))
    have HC4 := Aside0.mk (C_arr (xs := tag) hx4 (by rw [HTL.out]; omega))
    clear hb6 hx4 hcall HB4 HG4 HS4 HL4 HB1 HB7 HG7 HS7 HL7 HBW6 HUW6
    go_region_with ((go_at_call 32; refine (HCALL.out _ (by first | with_reducible exact Kd.C_drew HC7.out | with_reducible exact HC7.out) (by first | with_reducible exact Kd.C_drew HC4.out | with_reducible exact HC4.out)).mono ?_; rintro e w9 ⟨rfl, hb9⟩; have HB9 := Aside0.mk hb9; clear hb9))
    go_wp2
    go_ret
    exact ⟨rfl, below_step (below_drew HB6.out) HB9.out⟩
end Go.Proofs.Ythpkbamhpmgffaa.Sha
