/- Hand-written walks and plain lemmas of sha, hmac, keys: what each Go function comes to. No condition. -/
import Derived.Test.YthpkbamhpmgffaaShaV
namespace Go.Proofs.Ythpkbamhpmgffaa.Sha
open Go.RowKit Go.Proofs.YthpkbamhpmgffaaW.Hand Go.Proofs.YthpkbamhpmgffaaW.PrintWords Go.Proofs.YthpkbamhpmgffaaW.PrintLast Go.Proofs.YthpkbamhpmgffaaW.PrintMore Go.Proofs.Ythpkbamhpmgffaa.PF02 Go.Proofs.Ythpkbamhpmgffaa.Base Go.Proofs.Ythpkbamhpmgffaa.LF02
set_option linter.unusedVariables false
set_option linter.unusedSimpArgs false

/-! ### batonref03.Sum -/
/-- The two rows: what i bytes of the key, padded, come to. -/
def refL (wl : List Int) (x : Int) (k : Nat) : List Int := (turnL (fitL wl) x).take k
theorem fitL_ge (wl : List Int) : 64 ≤ (fitL wl).length := by unfold fitL; rw [List.length_append, List.length_replicate]; omega
theorem refL_push (wl : List Int) (x : Int) (k : Nat) (h : k < 64) : refL wl x k ++ [Go.bits .xor .u8 (rd (fitL wl) (k : Nat)) x] = refL wl x (k + 1) := by
  have hk : k < (turnL (fitL wl) x).length := by rw [turnL_length]; have := fitL_ge wl; omega
  unfold refL
  rw [List.take_succ_eq_append_getElem hk]
  congr 2
  have := fitL_ge wl
  rw [rd_lt (by omega)]
  simp [turnL]
theorem refL_length (wl : List Int) (x : Int) (k : Nat) (h : k ≤ 64) : (refL wl x k).length = k := by
  unfold refL
  have := fitL_ge wl
  rw [List.length_take, turnL_length]
  omega
theorem refL_bytes (wl : List Int) (x : Int) (k : Nat) : Bytes (refL wl x k) := fun y hy => turnL_bytes _ _ y (List.mem_of_mem_take hy)
/-- The state of batonref03.Sum's loop. -/
def RSt (w wr : World) (va vb : Value) (xs ys : List Int) : Prop := QB wr w.heap.size va xs ∧ QB wr w.heap.size vb ys ∧ (∀ k, va.ownBlock = some k → vb.ownBlock ≠ some k) ∧ Below w.heap.size w wr
/-- One row has grown: the other stands. -/
theorem RSt.push {w wr w1 w2 : World} {va vb v' : Value} {xs ys xs' : List Int} (h : RSt w wr va vb xs ys) (hb : Below wr.heap.size wr w1) (hq : QB w2 w.heap.size v' xs') (hgr : w1.grownBy w2 va.ownBlock) (hat : v'.ownBlock = va.ownBlock ∨ ∃ b, v'.ownBlock = some b ∧ w1.heap.size ≤ b) : RSt w w2 v' vb xs' ys := by
  obtain ⟨h1, h2, h3, h5⟩ := h
  have hs := h5.size
  have hs1 := hb.size
  refine ⟨hq, (h2.below hb).kept (grown_kept hgr) (fun k hk e => h3 k e hk), fun k hk e => ?_, (below_step h5 hb).grown hgr (by omega) (fun k hk => h1.base k hk)⟩
  rcases hat with h | ⟨b, h, hle⟩
  · exact h3 k (by rw [← h, hk]) e
  · rw [hk] at h
    injection h with h
    have := h2.lt k e
    omega
theorem RSt.swap {w wr : World} {va vb : Value} {xs ys : List Int} (h : RSt w wr va vb xs ys) : RSt w wr vb va ys xs := ⟨h.2.1, h.1, fun k hk e => h.2.2.1 k e hk, h.2.2.2⟩
theorem RSt.below {w wr W : World} {va vb : Value} {xs ys : List Int} (h : RSt w wr va vb xs ys) (hb : Below wr.heap.size wr W) : RSt w W va vb xs ys := ⟨h.1.below hb, h.2.1.below hb, h.2.2.1, below_step h.2.2.2 hb⟩
theorem refL_end (wl : List Int) (x : Int) (h : wl.length ≤ 64) : refL wl x 64 = turnL (fitL wl) x := by
  unfold refL
  exact List.take_of_length_le (by rw [turnL_length, fitL_length wl h]; omega)
theorem C_at {w : World} {A : Option Addr} {l : List Int} (h : Kd.C (Kd.int .u8) w A l.length l) (k : Nat) (hk : k < l.length) : ∃ ad, A = some ad ∧ w.cell? (ad.add k) = some (.int .u8 (rd l (k : Nat))) := by
  obtain ⟨ad, e, hc⟩ := C_cells h (by omega)
  refine ⟨ad, e, hc k _ ?_⟩
  rw [List.getElem?_map, List.getElem?_eq_getElem hk, rd_lt hk]
  rfl
set_option maxHeartbeats 8000000 in
set_option maxRecDepth 100000 in
theorem refHmac_calls (A : Option Addr) (c : Nat) (key : List Int) (A2 : Option Addr) (c2 : Nat) (m : List Int) (w : World) (hC : Kd.C (Kd.int .u8) w A key.length key) (hcc : key.length ≤ c) (hB : Bytes key) (hlk : key.length ≤ 1000000) (hCm : Kd.C (Kd.int .u8) w A2 m.length m) (hcm : m.length ≤ c2) (hBm : Bytes m) (hlm : m.length ≤ 1000000) :
    Calls Try.prog 29 #[.slice A key.length c, .slice A2 m.length c2] w fun e w' => NewRow w w' e (hmacL key [m]) := by
  have HC := Aside0.mk hC
  have HBB := Aside0.mk hB
  have HMM0 := Aside0.mk hCm
  have HBM := Aside0.mk hBm
  clear hC hB hCm hBm
  by_cases h64 : key.length > 64
  · have hFIN : Aside0 (hmacL key [m] = shaL (refL (shaL key) 92 64 ++ shaL (refL (shaL key) 54 64 ++ m))) := ⟨by unfold hmacL ownL; rw [if_pos h64, refL_end _ _ (by rw [shaL_length]; omega), refL_end _ _ (by rw [shaL_length]; omega)]; simp⟩
    go_enter Try.func29, Try.ntmps29
    go_wp2_with (go_at_call 22; refine (refSum_calls A c key _ HC.out hcc HBB.out (by omega)).mono ?_; rintro e w5 ⟨A5, c5, rfl, hle5, hC5, hb5⟩; have HCK := Aside0.mk hC5; have HB0 := Aside0.mk hb5; have HMM := Aside0.mk (Kd.C_below HMM0.out hb5); clear hC5 hb5)
    have hI : Aside0 (RSt w5 w5 (.slice none 0 0) (.slice none 0 0) (refL (shaL key) 92 0) (refL (shaL key) 54 0)) := ⟨QB.nil _ _, QB.nil _ _, (fun k hk => by cases hk), Below.refl _ _⟩
    go_loopw [5, 6, 7] (fun va vb i wr => ∃ k : Nat, k ≤ 64 ∧ i = .int .i64 k ∧ Aside0 (RSt w5 wr va vb (refL (shaL key) 92 k) (refL (shaL key) 54 k))) (fun _ _ i _ => 64 - (intOf i).toNat)
    case atStart => exact ⟨0, by omega, rfl, hI⟩
    case round =>
      clear hI
      obtain ⟨k, hk, rfl, HR⟩ := hrel
      obtain ⟨Aa, ca, rfl, hca⟩ := HR.out.1.slice
      obtain ⟨Ab, cb, rfl, hcb⟩ := HR.out.2.1.slice
      by_cases hlt : k < 64
      · by_cases hin : k < (shaL key).length
        · obtain ⟨ad, hAd, hcx⟩ := C_at (Kd.C_below HCK.out HR.out.2.2.2) k hin
          rw [← own_in (shaL key) k hin] at hcx
          subst hAd
          go_wp2_with (first | ((with_reducible refine gate_dst (N := 29) rfl ?_); refine L_bslice rfl 24 5 1 _ rfl Try.underlying24 (arr .u8 [Go.bits .xor .u8 (rd (fitL (shaL key)) (k : Nat)) 92]) (by kernel_rfl) ?_; intro g29 wr29 hb29 hg29 hs29 hl29; have HB29 := Aside0.mk hb29; clear hb29; have HG29 := Aside0.mk hg29; clear hg29; have HS29 := Aside0.mk hs29; clear hs29; have HL29 := Aside0.mk hl29; clear hl29) | ((with_reducible refine gate_builtin (b := .append) (xs := #[.tmp 26, .tmp 29]) rfl ?_); refine L_append rfl (.tmp 26) (.tmp 29) 24 rfl Try.underlying24 info5 w5.heap.size (.slice Aa (refL (shaL key) 92 k).length ca) (refL (shaL key) 92 k) [Go.bits .xor .u8 (rd (fitL (shaL key)) (k : Nat)) 92] (some ⟨g29, 0, none⟩) 1 rfl rfl (HR.out.1.below HL29.out) (C_arr (xs := [Go.bits .xor .u8 (rd (fitL (shaL key)) (k : Nat)) 92]) HB29.out (by simp)) (by rw [refL_length _ _ _ (by omega)]; simp; omega) (by have := HR.out.2.2.2.size; have := HL29.out.size; omega) ?_; intro vs30 ws30 hqs30 hgrs30 hats30; rw [refL_push (shaL key) _ _ hlt] at hqs30; have HSs30 := Aside0.mk (HR.out.push HL29.out hqs30 hgrs30 hats30); obtain ⟨As30, cs30, hvs30, hles30⟩ := hqs30.slice; subst hvs30; clear hqs30 hgrs30 hats30) | ((with_reducible refine gate_dst (N := 34) rfl ?_); refine L_bslice rfl 24 5 1 _ rfl Try.underlying24 (arr .u8 [Go.bits .xor .u8 (rd (fitL (shaL key)) (k : Nat)) 54]) (by kernel_rfl) ?_; intro g34 wr34 hb34 hg34 hs34 hl34; have HB34 := Aside0.mk hb34; clear hb34; have HG34 := Aside0.mk hg34; clear hg34; have HS34 := Aside0.mk hs34; clear hs34; have HL34 := Aside0.mk hl34; clear hl34) | ((with_reducible refine gate_builtin (b := .append) (xs := #[.tmp 31, .tmp 34]) rfl ?_); refine L_append rfl (.tmp 31) (.tmp 34) 24 rfl Try.underlying24 info5 w5.heap.size (.slice Ab (refL (shaL key) 54 k).length cb) (refL (shaL key) 54 k) [Go.bits .xor .u8 (rd (fitL (shaL key)) (k : Nat)) 54] (some ⟨g34, 0, none⟩) 1 rfl rfl (HSs30.out.swap.1.below HL34.out) (C_arr (xs := [Go.bits .xor .u8 (rd (fitL (shaL key)) (k : Nat)) 54]) HB34.out (by simp)) (by rw [refL_length _ _ _ (by omega)]; simp; omega) (by have := HSs30.out.2.2.2.size; have := HL34.out.size; omega) ?_; intro vs35 ws35 hqs35 hgrs35 hats35; rw [refL_push (shaL key) _ _ hlt] at hqs35; have HSs35 := Aside0.mk (HSs30.out.swap.push HL34.out hqs35 hgrs35 hats35); obtain ⟨As35, cs35, hvs35, hles35⟩ := hqs35.slice; subst hvs35; clear hqs35 hgrs35 hats35))
          go_roundw
          case rel => exact ⟨k + 1, by omega, by go_num, ⟨HSs35.out.swap⟩⟩
          case measure => simp [intOf]; omega
        · have h0 := own_out (shaL key) k hin hlt
          have e92 : refL (shaL key) 92 k ++ [92] = refL (shaL key) 92 (k + 1) := by have := refL_push (shaL key) 92 k hlt; rw [h0] at this; exact this
          have e54 : refL (shaL key) 54 k ++ [54] = refL (shaL key) 54 (k + 1) := by have := refL_push (shaL key) 54 k hlt; rw [h0] at this; exact this
          clear h0
          go_wp2_with (first | ((with_reducible refine gate_dst (N := 29) rfl ?_); refine L_bslice rfl 24 5 1 _ rfl Try.underlying24 (arr .u8 [92]) (by kernel_rfl) ?_; intro g29 wr29 hb29 hg29 hs29 hl29; have HB29 := Aside0.mk hb29; clear hb29; have HG29 := Aside0.mk hg29; clear hg29; have HS29 := Aside0.mk hs29; clear hs29; have HL29 := Aside0.mk hl29; clear hl29) | ((with_reducible refine gate_builtin (b := .append) (xs := #[.tmp 26, .tmp 29]) rfl ?_); refine L_append rfl (.tmp 26) (.tmp 29) 24 rfl Try.underlying24 info5 w5.heap.size (.slice Aa (refL (shaL key) 92 k).length ca) (refL (shaL key) 92 k) [92] (some ⟨g29, 0, none⟩) 1 rfl rfl (HR.out.1.below HL29.out) (C_arr (xs := [92]) HB29.out (by simp)) (by rw [refL_length _ _ _ (by omega)]; simp; omega) (by have := HR.out.2.2.2.size; have := HL29.out.size; omega) ?_; intro vs30 ws30 hqs30 hgrs30 hats30; rw [e92] at hqs30; have HSs30 := Aside0.mk (HR.out.push HL29.out hqs30 hgrs30 hats30); obtain ⟨As30, cs30, hvs30, hles30⟩ := hqs30.slice; subst hvs30; clear hqs30 hgrs30 hats30) | ((with_reducible refine gate_dst (N := 34) rfl ?_); refine L_bslice rfl 24 5 1 _ rfl Try.underlying24 (arr .u8 [54]) (by kernel_rfl) ?_; intro g34 wr34 hb34 hg34 hs34 hl34; have HB34 := Aside0.mk hb34; clear hb34; have HG34 := Aside0.mk hg34; clear hg34; have HS34 := Aside0.mk hs34; clear hs34; have HL34 := Aside0.mk hl34; clear hl34) | ((with_reducible refine gate_builtin (b := .append) (xs := #[.tmp 31, .tmp 34]) rfl ?_); refine L_append rfl (.tmp 31) (.tmp 34) 24 rfl Try.underlying24 info5 w5.heap.size (.slice Ab (refL (shaL key) 54 k).length cb) (refL (shaL key) 54 k) [54] (some ⟨g34, 0, none⟩) 1 rfl rfl (HSs30.out.swap.1.below HL34.out) (C_arr (xs := [54]) HB34.out (by simp)) (by rw [refL_length _ _ _ (by omega)]; simp; omega) (by have := HSs30.out.2.2.2.size; have := HL34.out.size; omega) ?_; intro vs35 ws35 hqs35 hgrs35 hats35; rw [e54] at hqs35; have HSs35 := Aside0.mk (HSs30.out.swap.push HL34.out hqs35 hgrs35 hats35); obtain ⟨As35, cs35, hvs35, hles35⟩ := hqs35.slice; subst hvs35; clear hqs35 hgrs35 hats35))
          go_roundw
          case rel => exact ⟨k + 1, by omega, by go_num, ⟨HSs35.out.swap⟩⟩
          case measure => simp [intOf]; omega
      · obtain rfl : k = 64 := by omega
        obtain ⟨X92, hX92⟩ : ∃ X, X = refL (shaL key) 92 64 := ⟨_, rfl⟩
        obtain ⟨X54, hX54⟩ : ∃ X, X = refL (shaL key) 54 64 := ⟨_, rfl⟩
        have hl92 : X92.length = 64 := by rw [hX92]; exact refL_length _ _ _ (by omega)
        have hl54 : X54.length = 64 := by rw [hX54]; exact refL_length _ _ _ (by omega)
        have hb92 : Bytes X92 := by rw [hX92]; exact refL_bytes _ _ _
        have hb54 : Bytes X54 := by rw [hX54]; exact refL_bytes _ _ _
        have hF := hFIN.out
        have HR2 := HR.out
        rw [← hX92, ← hX54] at HR2 hF
        rw [← hX92] at hca
        rw [← hX54] at hcb
        rw [← hX92, ← hX54]
        obtain ⟨T1, hT1⟩ : ∃ X, X = X54 ++ m := ⟨_, rfl⟩
        obtain ⟨S1, hS1⟩ : ∃ X, X = shaL T1 := ⟨_, rfl⟩
        obtain ⟨T2, hT2⟩ : ∃ X, X = X92 ++ S1 := ⟨_, rfl⟩
        have hlS1 : S1.length = 32 := by rw [hS1]; exact shaL_length _
        have hbS1 : Bytes S1 := by rw [hS1]; exact shaL_bytes _
        rw [← hT1, ← hS1, ← hT2] at hF
        have HT1 := Aside0.mk hT1
        have HT2 := Aside0.mk hT2
        have hlT1 : T1.length ≤ 2000000 := by rw [hT1, List.length_append]; omega
        have hlT2 : T2.length = 96 := by rw [hT2, List.length_append]; omega
        have HLT := Aside0.mk (And.intro hlT1 hlT2)
        have HFX := Aside0.mk (And.intro hF (And.intro hl92 (And.intro hl54 (And.intro hb92 (And.intro hb54 (And.intro hlS1 (And.intro hbS1 hS1)))))))
        clear hT1 hT2 hlT1 hlT2 HR hFIN hX92 hX54 hl92 hl54 hb92 hb54 hF hS1 hlS1 hbS1
        have HR := Aside0.mk HR2
        clear HR2
        go_wp2_with (first | ((with_reducible refine gate_builtin (b := .append) (xs := #[.tmp 37, .tmp 38]) rfl ?_); refine L_append rfl (.tmp 37) (.tmp 38) 24 rfl Try.underlying24 info5 w5.heap.size (.slice Ab X54.length cb) X54 m A2 c2 rfl rfl HR.out.2.1 (Kd.C_below HMM.out HR.out.2.2.2) (by rw [HFX.out.2.2.1]; omega) HR.out.2.2.2.size ?_; intro v39 w39 hq39 hgr39 hat39; rw [← HT1.out] at hq39; have HS39 := Aside0.mk (HR.out.swap.push (Below.refl _ _) hq39 hgr39 hat39); obtain ⟨A39, c39, hv39, hle39⟩ := hq39.slice; subst hv39; clear hq39 hgr39 hat39) | (go_at_call 22; have _t := HS41.out; refine (refSum_calls A41 c41 T2 _ HS41.out.1.C hle41 (by rw [HT2.out]; exact HFX.out.2.2.2.1.append HFX.out.2.2.2.2.2.2.1) (by rw [HLT.out.2]; omega)).mono ?_; rintro e w6 ⟨A6, c6, rfl, hle6, hC6, hb6⟩; have HC6 := Aside0.mk hC6; have HB6 := Aside0.mk hb6; clear hC6 hb6) | (go_at_call 22; refine (refSum_calls A39 c39 T1 _ HS39.out.1.C hle39 (by rw [HT1.out]; exact HFX.out.2.2.2.2.1.append HBM.out) (Nat.le_trans HLT.out.1 (by decide))).mono ?_; rintro e w40 hn40; rw [← HFX.out.2.2.2.2.2.2.2] at hn40; obtain ⟨A40, c40, rfl, hle40, hC40, hb40⟩ := hn40; have HC40 := Aside0.mk hC40; have HB40 := Aside0.mk hb40; clear hC40 hb40) | ((with_reducible refine gate_builtin (b := .append) (xs := #[.tmp 36, .tmp 40]) rfl ?_); refine L_append rfl (.tmp 36) (.tmp 40) 24 rfl Try.underlying24 info5 w5.heap.size (.slice Aa X92.length ca) X92 S1 A40 c40 rfl rfl ((HS39.out.below HB40.out).swap.1) HC40.out (by rw [HFX.out.2.1, HFX.out.2.2.2.2.2.1]; omega) ((HS39.out.below HB40.out).2.2.2.size) ?_; intro v41 w41 hq41 hgr41 hat41; rw [← HT2.out] at hq41; have HS41 := Aside0.mk ((HS39.out.below HB40.out).swap.push (Below.refl _ _) hq41 hgr41 hat41); obtain ⟨A41, c41, hv41, hle41⟩ := hq41.slice; subst hv41; clear hq41 hgr41 hat41))
        go_ret
        exact ⟨A6, c6, by rw [HFX.out.1]; rfl, by rw [HFX.out.1]; exact hle6, by rw [HFX.out.1]; exact HC6.out, below_step (below_step HB0.out HS41.out.2.2.2) HB6.out⟩
  · have hFIN : Aside0 (hmacL key [m] = shaL (refL key 92 64 ++ shaL (refL key 54 64 ++ m))) := ⟨by unfold hmacL ownL; rw [if_neg h64, refL_end _ _ (by omega), refL_end _ _ (by omega)]; simp⟩
    have HCK := Aside0.mk HC.out
    have HMM := Aside0.mk HMM0.out
    have HB0 := Aside0.mk (Below.refl w.heap.size w)
    go_enter Try.func29, Try.ntmps29
    go_wp2
    have hI : Aside0 (RSt w w (.slice none 0 0) (.slice none 0 0) (refL key 92 0) (refL key 54 0)) := ⟨QB.nil _ _, QB.nil _ _, (fun k hk => by cases hk), Below.refl _ _⟩
    go_loopw [5, 6, 7] (fun va vb i wr => ∃ k : Nat, k ≤ 64 ∧ i = .int .i64 k ∧ Aside0 (RSt w wr va vb (refL key 92 k) (refL key 54 k))) (fun _ _ i _ => 64 - (intOf i).toNat)
    case atStart => exact ⟨0, by omega, rfl, hI⟩
    case round =>
      clear hI
      obtain ⟨k, hk, rfl, HR⟩ := hrel
      obtain ⟨Aa, ca, rfl, hca⟩ := HR.out.1.slice
      obtain ⟨Ab, cb, rfl, hcb⟩ := HR.out.2.1.slice
      by_cases hlt : k < 64
      · by_cases hin : k < key.length
        · obtain ⟨ad, hAd, hcx⟩ := C_at (Kd.C_below HCK.out HR.out.2.2.2) k hin
          rw [← own_in key k hin] at hcx
          subst hAd
          go_wp2_with (first | ((with_reducible refine gate_dst (N := 29) rfl ?_); refine L_bslice rfl 24 5 1 _ rfl Try.underlying24 (arr .u8 [Go.bits .xor .u8 (rd (fitL key) (k : Nat)) 92]) (by kernel_rfl) ?_; intro g29 wr29 hb29 hg29 hs29 hl29; have HB29 := Aside0.mk hb29; clear hb29; have HG29 := Aside0.mk hg29; clear hg29; have HS29 := Aside0.mk hs29; clear hs29; have HL29 := Aside0.mk hl29; clear hl29) | ((with_reducible refine gate_builtin (b := .append) (xs := #[.tmp 26, .tmp 29]) rfl ?_); refine L_append rfl (.tmp 26) (.tmp 29) 24 rfl Try.underlying24 info5 w.heap.size (.slice Aa (refL key 92 k).length ca) (refL key 92 k) [Go.bits .xor .u8 (rd (fitL key) (k : Nat)) 92] (some ⟨g29, 0, none⟩) 1 rfl rfl (HR.out.1.below HL29.out) (C_arr (xs := [Go.bits .xor .u8 (rd (fitL key) (k : Nat)) 92]) HB29.out (by simp)) (by rw [refL_length _ _ _ (by omega)]; simp; omega) (by have := HR.out.2.2.2.size; have := HL29.out.size; omega) ?_; intro vs30 ws30 hqs30 hgrs30 hats30; rw [refL_push key _ _ hlt] at hqs30; have HSs30 := Aside0.mk (HR.out.push HL29.out hqs30 hgrs30 hats30); obtain ⟨As30, cs30, hvs30, hles30⟩ := hqs30.slice; subst hvs30; clear hqs30 hgrs30 hats30) | ((with_reducible refine gate_dst (N := 34) rfl ?_); refine L_bslice rfl 24 5 1 _ rfl Try.underlying24 (arr .u8 [Go.bits .xor .u8 (rd (fitL key) (k : Nat)) 54]) (by kernel_rfl) ?_; intro g34 wr34 hb34 hg34 hs34 hl34; have HB34 := Aside0.mk hb34; clear hb34; have HG34 := Aside0.mk hg34; clear hg34; have HS34 := Aside0.mk hs34; clear hs34; have HL34 := Aside0.mk hl34; clear hl34) | ((with_reducible refine gate_builtin (b := .append) (xs := #[.tmp 31, .tmp 34]) rfl ?_); refine L_append rfl (.tmp 31) (.tmp 34) 24 rfl Try.underlying24 info5 w.heap.size (.slice Ab (refL key 54 k).length cb) (refL key 54 k) [Go.bits .xor .u8 (rd (fitL key) (k : Nat)) 54] (some ⟨g34, 0, none⟩) 1 rfl rfl (HSs30.out.swap.1.below HL34.out) (C_arr (xs := [Go.bits .xor .u8 (rd (fitL key) (k : Nat)) 54]) HB34.out (by simp)) (by rw [refL_length _ _ _ (by omega)]; simp; omega) (by have := HSs30.out.2.2.2.size; have := HL34.out.size; omega) ?_; intro vs35 ws35 hqs35 hgrs35 hats35; rw [refL_push key _ _ hlt] at hqs35; have HSs35 := Aside0.mk (HSs30.out.swap.push HL34.out hqs35 hgrs35 hats35); obtain ⟨As35, cs35, hvs35, hles35⟩ := hqs35.slice; subst hvs35; clear hqs35 hgrs35 hats35))
          go_roundw
          case rel => exact ⟨k + 1, by omega, by go_num, ⟨HSs35.out.swap⟩⟩
          case measure => simp [intOf]; omega
        · have h0 := own_out key k hin hlt
          have e92 : refL key 92 k ++ [92] = refL key 92 (k + 1) := by have := refL_push key 92 k hlt; rw [h0] at this; exact this
          have e54 : refL key 54 k ++ [54] = refL key 54 (k + 1) := by have := refL_push key 54 k hlt; rw [h0] at this; exact this
          clear h0
          go_wp2_with (first | ((with_reducible refine gate_dst (N := 29) rfl ?_); refine L_bslice rfl 24 5 1 _ rfl Try.underlying24 (arr .u8 [92]) (by kernel_rfl) ?_; intro g29 wr29 hb29 hg29 hs29 hl29; have HB29 := Aside0.mk hb29; clear hb29; have HG29 := Aside0.mk hg29; clear hg29; have HS29 := Aside0.mk hs29; clear hs29; have HL29 := Aside0.mk hl29; clear hl29) | ((with_reducible refine gate_builtin (b := .append) (xs := #[.tmp 26, .tmp 29]) rfl ?_); refine L_append rfl (.tmp 26) (.tmp 29) 24 rfl Try.underlying24 info5 w.heap.size (.slice Aa (refL key 92 k).length ca) (refL key 92 k) [92] (some ⟨g29, 0, none⟩) 1 rfl rfl (HR.out.1.below HL29.out) (C_arr (xs := [92]) HB29.out (by simp)) (by rw [refL_length _ _ _ (by omega)]; simp; omega) (by have := HR.out.2.2.2.size; have := HL29.out.size; omega) ?_; intro vs30 ws30 hqs30 hgrs30 hats30; rw [e92] at hqs30; have HSs30 := Aside0.mk (HR.out.push HL29.out hqs30 hgrs30 hats30); obtain ⟨As30, cs30, hvs30, hles30⟩ := hqs30.slice; subst hvs30; clear hqs30 hgrs30 hats30) | ((with_reducible refine gate_dst (N := 34) rfl ?_); refine L_bslice rfl 24 5 1 _ rfl Try.underlying24 (arr .u8 [54]) (by kernel_rfl) ?_; intro g34 wr34 hb34 hg34 hs34 hl34; have HB34 := Aside0.mk hb34; clear hb34; have HG34 := Aside0.mk hg34; clear hg34; have HS34 := Aside0.mk hs34; clear hs34; have HL34 := Aside0.mk hl34; clear hl34) | ((with_reducible refine gate_builtin (b := .append) (xs := #[.tmp 31, .tmp 34]) rfl ?_); refine L_append rfl (.tmp 31) (.tmp 34) 24 rfl Try.underlying24 info5 w.heap.size (.slice Ab (refL key 54 k).length cb) (refL key 54 k) [54] (some ⟨g34, 0, none⟩) 1 rfl rfl (HSs30.out.swap.1.below HL34.out) (C_arr (xs := [54]) HB34.out (by simp)) (by rw [refL_length _ _ _ (by omega)]; simp; omega) (by have := HSs30.out.2.2.2.size; have := HL34.out.size; omega) ?_; intro vs35 ws35 hqs35 hgrs35 hats35; rw [e54] at hqs35; have HSs35 := Aside0.mk (HSs30.out.swap.push HL34.out hqs35 hgrs35 hats35); obtain ⟨As35, cs35, hvs35, hles35⟩ := hqs35.slice; subst hvs35; clear hqs35 hgrs35 hats35))
          go_roundw
          case rel => exact ⟨k + 1, by omega, by go_num, ⟨HSs35.out.swap⟩⟩
          case measure => simp [intOf]; omega
      · obtain rfl : k = 64 := by omega
        obtain ⟨X92, hX92⟩ : ∃ X, X = refL key 92 64 := ⟨_, rfl⟩
        obtain ⟨X54, hX54⟩ : ∃ X, X = refL key 54 64 := ⟨_, rfl⟩
        have hl92 : X92.length = 64 := by rw [hX92]; exact refL_length _ _ _ (by omega)
        have hl54 : X54.length = 64 := by rw [hX54]; exact refL_length _ _ _ (by omega)
        have hb92 : Bytes X92 := by rw [hX92]; exact refL_bytes _ _ _
        have hb54 : Bytes X54 := by rw [hX54]; exact refL_bytes _ _ _
        have hF := hFIN.out
        have HR2 := HR.out
        rw [← hX92, ← hX54] at HR2 hF
        rw [← hX92] at hca
        rw [← hX54] at hcb
        rw [← hX92, ← hX54]
        obtain ⟨T1, hT1⟩ : ∃ X, X = X54 ++ m := ⟨_, rfl⟩
        obtain ⟨S1, hS1⟩ : ∃ X, X = shaL T1 := ⟨_, rfl⟩
        obtain ⟨T2, hT2⟩ : ∃ X, X = X92 ++ S1 := ⟨_, rfl⟩
        have hlS1 : S1.length = 32 := by rw [hS1]; exact shaL_length _
        have hbS1 : Bytes S1 := by rw [hS1]; exact shaL_bytes _
        rw [← hT1, ← hS1, ← hT2] at hF
        have HT1 := Aside0.mk hT1
        have HT2 := Aside0.mk hT2
        have hlT1 : T1.length ≤ 2000000 := by rw [hT1, List.length_append]; omega
        have hlT2 : T2.length = 96 := by rw [hT2, List.length_append]; omega
        have HLT := Aside0.mk (And.intro hlT1 hlT2)
        have HFX := Aside0.mk (And.intro hF (And.intro hl92 (And.intro hl54 (And.intro hb92 (And.intro hb54 (And.intro hlS1 (And.intro hbS1 hS1)))))))
        clear hT1 hT2 hlT1 hlT2 HR hFIN hX92 hX54 hl92 hl54 hb92 hb54 hF hS1 hlS1 hbS1
        have HR := Aside0.mk HR2
        clear HR2
        go_wp2_with (first | ((with_reducible refine gate_builtin (b := .append) (xs := #[.tmp 37, .tmp 38]) rfl ?_); refine L_append rfl (.tmp 37) (.tmp 38) 24 rfl Try.underlying24 info5 w.heap.size (.slice Ab X54.length cb) X54 m A2 c2 rfl rfl HR.out.2.1 (Kd.C_below HMM.out HR.out.2.2.2) (by rw [HFX.out.2.2.1]; omega) HR.out.2.2.2.size ?_; intro v39 w39 hq39 hgr39 hat39; rw [← HT1.out] at hq39; have HS39 := Aside0.mk (HR.out.swap.push (Below.refl _ _) hq39 hgr39 hat39); obtain ⟨A39, c39, hv39, hle39⟩ := hq39.slice; subst hv39; clear hq39 hgr39 hat39) | (go_at_call 22; have _t := HS41.out; refine (refSum_calls A41 c41 T2 _ HS41.out.1.C hle41 (by rw [HT2.out]; exact HFX.out.2.2.2.1.append HFX.out.2.2.2.2.2.2.1) (by rw [HLT.out.2]; omega)).mono ?_; rintro e w6 ⟨A6, c6, rfl, hle6, hC6, hb6⟩; have HC6 := Aside0.mk hC6; have HB6 := Aside0.mk hb6; clear hC6 hb6) | (go_at_call 22; refine (refSum_calls A39 c39 T1 _ HS39.out.1.C hle39 (by rw [HT1.out]; exact HFX.out.2.2.2.2.1.append HBM.out) (Nat.le_trans HLT.out.1 (by decide))).mono ?_; rintro e w40 hn40; rw [← HFX.out.2.2.2.2.2.2.2] at hn40; obtain ⟨A40, c40, rfl, hle40, hC40, hb40⟩ := hn40; have HC40 := Aside0.mk hC40; have HB40 := Aside0.mk hb40; clear hC40 hb40) | ((with_reducible refine gate_builtin (b := .append) (xs := #[.tmp 36, .tmp 40]) rfl ?_); refine L_append rfl (.tmp 36) (.tmp 40) 24 rfl Try.underlying24 info5 w.heap.size (.slice Aa X92.length ca) X92 S1 A40 c40 rfl rfl ((HS39.out.below HB40.out).swap.1) HC40.out (by rw [HFX.out.2.1, HFX.out.2.2.2.2.2.1]; omega) ((HS39.out.below HB40.out).2.2.2.size) ?_; intro v41 w41 hq41 hgr41 hat41; rw [← HT2.out] at hq41; have HS41 := Aside0.mk ((HS39.out.below HB40.out).swap.push (Below.refl _ _) hq41 hgr41 hat41); obtain ⟨A41, c41, hv41, hle41⟩ := hq41.slice; subst hv41; clear hq41 hgr41 hat41))
        go_ret
        exact ⟨A6, c6, by rw [HFX.out.1]; rfl, by rw [HFX.out.1]; exact hle6, by rw [HFX.out.1]; exact HC6.out, below_step (below_step HB0.out HS41.out.2.2.2) HB6.out⟩
end Go.Proofs.Ythpkbamhpmgffaa.Sha
