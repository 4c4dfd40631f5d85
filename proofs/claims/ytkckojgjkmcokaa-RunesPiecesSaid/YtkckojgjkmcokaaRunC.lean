/- Plain lemmas: what the walks over a text come to. No condition. -/
import Derived.Test.YtkckojgjkmcokaaRunB
import Derived.Lib.Strings
import Derived.Laws.RangeAny
import Derived.Lib.DecodeN
namespace Go.Proofs.Ytkckojgjkmcokaa.Sha
open Go.AnyFacts Go.RowKit Go.Proofs.YtkckojgjkmcokaaW.Hand Go.Proofs.YtkckojgjkmcokaaW.PrintWords Go.Proofs.YtkckojgjkmcokaaW.PrintLast Go.Proofs.YtkckojgjkmcokaaW.PrintMore Go.Proofs.Ytkckojgjkmcokaa.PF08T Go.Proofs.Ytkckojgjkmcokaa.Base Go.Proofs.Ytkckojgjkmcokaa.LF08T
set_option linter.unusedVariables false
set_option linter.unusedSimpArgs false

theorem wh1_iff (a : Int) : wh [a] ↔ a < 128 := Iff.rfl
open Go.Lib in
theorem decodeN_wlen (n b0 b1 b2 b3 : Nat) (h0 : b0 < 256) (h1 : b1 < 256) (h2 : b2 < 256) (h3 : b3 < 256) (L : List Int) (hn : 1 ≤ n) (hL : L.take 4 = ([(b0 : Int), b1, b2, b3] : List Int).take n) :
    decodeN n b0 b1 b2 b3 = if wlen L = 0 then (65533, 1) else ((cp (L.take (wlen L))).toNat, wlen L) := by
  have t : ∀ k, k ≤ 4 → L.take k = (([(b0 : Int), b1, b2, b3] : List Int).take n).take k := fun k hk => by rw [← hL, List.take_take, Nat.min_eq_left hk]
  have w1 : wh (L.take 1) ↔ b0 < 128 := by
    rw [t 1 (by omega)]
    obtain ⟨m, rfl⟩ : ∃ m, n = m + 1 := ⟨n - 1, by omega⟩
    show wh [(b0 : Int)] ↔ _
    rw [wh1_iff]; omega
  have w2 : wh (L.take 2) ↔ ((n = 1 ∧ b0 < 128) ∨ (2 ≤ n ∧ b0 / 32 = 6 ∧ b1 / 64 = 2 ∧ b0 % 32 * 64 + b1 % 64 ≥ 128)) := by
    rw [t 2 (by omega)]
    rcases (show n = 1 ∨ 2 ≤ n by omega) with rfl | h
    · show wh [(b0 : Int)] ↔ _
      rw [wh1_iff]; omega
    · obtain ⟨m, rfl⟩ : ∃ m, n = m + 2 := ⟨n - 2, by omega⟩
      show wh [(b0 : Int), b1] ↔ _
      rw [wh2_iff]; omega
  have w3 : 3 ≤ n → (wh (L.take 3) ↔ (b0 / 16 = 14 ∧ b1 / 64 = 2 ∧ b2 / 64 = 2 ∧ b0 % 16 * 4096 + b1 % 64 * 64 + b2 % 64 ≥ 2048 ∧ (b0 % 16 * 4096 + b1 % 64 * 64 + b2 % 64 < 55296 ∨ 57344 ≤ b0 % 16 * 4096 + b1 % 64 * 64 + b2 % 64))) := by
    intro h
    rw [t 3 (by omega)]
    obtain ⟨m, rfl⟩ : ∃ m, n = m + 3 := ⟨n - 3, by omega⟩
    show wh [(b0 : Int), b1, b2] ↔ _
    rw [wh3_iff]
    unfold lo3 hi3
    split <;> split <;> omega
  have w4 : 4 ≤ n → (wh (L.take 4) ↔ (b0 / 8 = 30 ∧ b1 / 64 = 2 ∧ b2 / 64 = 2 ∧ b3 / 64 = 2 ∧ b0 % 8 * 262144 + b1 % 64 * 4096 + b2 % 64 * 64 + b3 % 64 ≥ 65536 ∧ b0 % 8 * 262144 + b1 % 64 * 4096 + b2 % 64 * 64 + b3 % 64 ≤ 1114111)) := by
    intro h
    rw [t 4 (by omega)]
    obtain ⟨m, rfl⟩ : ∃ m, n = m + 4 := ⟨n - 4, by omega⟩
    show wh [(b0 : Int), b1, b2, b3] ↔ _
    rw [wh4_iff]
    unfold lo4 hi4
    split <;> split <;> omega
  have s2 : n = 2 → L.take 3 = L.take 2 ∧ L.take 4 = L.take 2 := by
    rintro rfl
    rw [t 2 (by omega), t 3 (by omega), t 4 (by omega)]
    exact ⟨rfl, rfl⟩
  have s1 : n = 1 → L.take 2 = L.take 1 ∧ L.take 3 = L.take 1 ∧ L.take 4 = L.take 1 := by
    rintro rfl
    rw [t 1 (by omega), t 2 (by omega), t 3 (by omega), t 4 (by omega)]
    exact ⟨rfl, rfl, rfl⟩
  have s3 : n = 3 → L.take 4 = L.take 3 := by
    rintro rfl
    rw [t 3 (by omega), t 4 (by omega)]
    rfl
  have c1 : cp (L.take 1) = b0 := by
    rw [t 1 (by omega)]
    obtain ⟨m, rfl⟩ : ∃ m, n = m + 1 := ⟨n - 1, by omega⟩
    rfl
  have c2 : 2 ≤ n → cp (L.take 2) = ((b0 : Int) - 192) * 64 + b1 - 128 := by
    intro h
    rw [t 2 (by omega)]
    obtain ⟨m, rfl⟩ : ∃ m, n = m + 2 := ⟨n - 2, by omega⟩
    rfl
  have c3 : 3 ≤ n → cp (L.take 3) = (((b0 : Int) - 224) * 64 + b1 - 128) * 64 + b2 - 128 := by
    intro h
    rw [t 3 (by omega)]
    obtain ⟨m, rfl⟩ : ∃ m, n = m + 3 := ⟨n - 3, by omega⟩
    rfl
  have c4 : 4 ≤ n → cp (L.take 4) = ((((b0 : Int) - 240) * 64 + b1 - 128) * 64 + b2 - 128) * 64 + b3 - 128 := by
    intro h
    rw [t 4 (by omega)]
    obtain ⟨m, rfl⟩ : ∃ m, n = m + 4 := ⟨n - 4, by omega⟩
    rfl
  by_cases q1 : b0 < 128
  · have e : wlen L = 1 := if_pos (w1.2 q1)
    rw [e, if_neg (by decide), c1]
    unfold decodeN
    rw [if_pos q1]
    simp
  have f1 : ¬ wh (L.take 1) := fun h => q1 (w1.1 h)
  by_cases q2 : 2 ≤ n ∧ b0 / 32 = 6 ∧ b1 / 64 = 2 ∧ b0 % 32 * 64 + b1 % 64 ≥ 128
  · have e : wlen L = 2 := by unfold wlen; rw [if_neg f1, if_pos (w2.2 (.inr q2))]
    rw [e, if_neg (by decide), c2 q2.1]
    unfold decodeN
    rw [if_neg q1, if_pos ⟨q2.2.1, by omega, q2.2.2.1⟩, if_pos q2.2.2.2]
    congr 1
    omega
  have f2 : ¬ wh (L.take 2) := fun h => by
    rcases w2.1 h with h | h
    · exact q1 h.2
    · exact q2 h
  by_cases q3 : 3 ≤ n ∧ b0 / 16 = 14 ∧ b1 / 64 = 2 ∧ b2 / 64 = 2 ∧ b0 % 16 * 4096 + b1 % 64 * 64 + b2 % 64 ≥ 2048 ∧ (b0 % 16 * 4096 + b1 % 64 * 64 + b2 % 64 < 55296 ∨ 57344 ≤ b0 % 16 * 4096 + b1 % 64 * 64 + b2 % 64)
  · have e : wlen L = 3 := by unfold wlen; rw [if_neg f1, if_neg f2, if_pos ((w3 q3.1).2 q3.2)]
    rw [e, if_neg (by decide), c3 q3.1]
    unfold decodeN
    rw [if_neg q1, if_neg (by omega), if_pos (by omega), if_pos (by omega)]
    congr 1
    omega
  have f3 : ¬ wh (L.take 3) := by
    rcases (show n = 1 ∨ n = 2 ∨ 3 ≤ n by omega) with h | h | h
    · rw [(s1 h).2.1]; exact f1
    · rw [(s2 h).1]; exact f2
    · exact fun q => q3 ⟨h, (w3 h).1 q⟩
  by_cases q4 : 4 ≤ n ∧ b0 / 8 = 30 ∧ b1 / 64 = 2 ∧ b2 / 64 = 2 ∧ b3 / 64 = 2 ∧ b0 % 8 * 262144 + b1 % 64 * 4096 + b2 % 64 * 64 + b3 % 64 ≥ 65536 ∧ b0 % 8 * 262144 + b1 % 64 * 4096 + b2 % 64 * 64 + b3 % 64 ≤ 1114111
  · have e : wlen L = 4 := by unfold wlen; rw [if_neg f1, if_neg f2, if_neg f3, if_pos ((w4 q4.1).2 q4.2)]
    rw [e, if_neg (by decide), c4 q4.1]
    unfold decodeN
    rw [if_neg q1, if_neg (by omega), if_neg (by omega), if_pos (by omega), if_pos (by omega)]
    congr 1
    omega
  have f4 : ¬ wh (L.take 4) := by
    rcases (show n = 1 ∨ n = 2 ∨ n = 3 ∨ 4 ≤ n by omega) with h | h | h | h
    · rw [(s1 h).2.2]; exact f1
    · rw [(s2 h).2]; exact f2
    · rw [s3 h]; exact f3
    · exact fun q => q4 ⟨h, (w4 h).1 q⟩
  have e : wlen L = 0 := by unfold wlen; rw [if_neg f1, if_neg f2, if_neg f3, if_neg f4]
  rw [e, if_pos rfl]
  unfold decodeN
  rw [if_neg q1]
  repeat' split
  all_goals first | rfl | (exfalso; omega)
/-! ### what the walks over a text come to -/
theorem bytesS_drop4 (s : ByteArray) (pos : Nat) : ((bytesS s).drop pos).take 4 = ([((s.get! pos).toNat : Int), (s.get! (pos + 1)).toNat, (s.get! (pos + 2)).toNat, (s.get! (pos + 3)).toNat] : List Int).take (s.size - pos) := by
  refine List.ext_getElem? (fun i => ?_)
  have hsz : s.data.toList.length = s.size := by rw [Array.length_toList]; rfl
  rw [List.getElem?_take, List.getElem?_take, List.getElem?_drop]
  by_cases h4 : i < 4
  · rw [if_pos h4]
    by_cases hi : i < s.size - pos
    · rw [if_pos hi]
      have e : (bytesS s)[pos + i]? = some ((s.get! (pos + i)).toNat : Int) := by
        unfold bytesS
        rw [List.getElem?_map]
        have hlt : pos + i < s.data.size := by have : s.data.size = s.size := rfl; omega
        have : s.data.toList[pos + i]? = some (s.get! (pos + i)) := by
          rw [Array.getElem?_toList, Array.getElem?_eq_getElem hlt]
          exact congrArg some (getElem!_pos s.data (pos + i) hlt).symm
        rw [this]
        rfl
      rw [e]
      rcases (show i = 0 ∨ i = 1 ∨ i = 2 ∨ i = 3 by omega) with rfl | rfl | rfl | rfl <;> rfl
    · rw [if_neg hi]
      exact List.getElem?_eq_none (by rw [bytesS_length]; omega)
  · rw [if_neg h4]
    by_cases hi : i < s.size - pos
    · rw [if_pos hi]
      exact (List.getElem?_eq_none (by simp; omega)).symm
    · rw [if_neg hi]
theorem decode_wlen (s : ByteArray) (pos : Nat) (h : pos < s.size) : Utf8.decode s pos = if wlen ((bytesS s).drop pos) = 0 then (65533, 1) else ((cp (((bytesS s).drop pos).take (wlen ((bytesS s).drop pos)))).toNat, wlen ((bytesS s).drop pos)) := by
  rw [Go.Lib.decode_at]
  exact decodeN_wlen _ _ _ _ _ (UInt8.toNat_lt _) (UInt8.toNat_lt _) (UInt8.toNat_lt _) (UInt8.toNat_lt _) _ (by omega) (bytesS_drop4 s pos)
theorem broken_of (s : ByteArray) (pos : Nat) (h : pos ≤ s.size) : runes_broken.f (s.extract pos s.size) = some (decide (((bytesS s).drop pos).take 3 = [239, 191, 189])) := by
  have hz : (s.extract pos s.size).size = s.size - pos := by rw [ByteArray.size_extract]; omega
  have hd : ((bytesS s).drop pos).length = s.size - pos := by rw [List.length_drop, bytesS_length]
  unfold runes_broken.f
  rw [hz]
  by_cases h3 : s.size - pos ≥ 3
  · rw [if_pos (by omega), if_pos (by decide), if_pos (by omega)]
    congr 1
    rw [Bool.eq_iff_iff, beq_iff_eq, decide_eq_true_iff]
    have e : ((s.extract pos s.size).extract 0 3).toList = (s.data.toList.drop pos).take 3 := by
      rw [Go.Lib.extract_toList, Go.Lib.extract_data, List.drop_zero, Nat.sub_zero, List.take_take, Nat.min_eq_left (by omega)]
    rw [e]
    unfold bytesS
    rw [← List.map_drop, ← List.map_take]
    have hinj : ∀ x y : UInt8, (x.toNat : Int) = (y.toNat : Int) → x = y := fun x y h => UInt8.toNat_inj.1 (by omega)
    rw [show ([239, 191, 189] : List Int) = ([239, 191, 189] : List UInt8).map (fun b => (b.toNat : Int)) from rfl, List.map_inj_right hinj]
  · rw [if_neg (by omega)]
    congr 1
    symm
    rw [decide_eq_false_iff_not]
    intro e
    have := congrArg List.length e
    rw [List.length_take, hd] at this
    simp at this
    omega
theorem bad_take {L : List Int} (h : L.take 3 = [239, 191, 189]) : wlen L = 3 ∧ cp (L.take 3) = 65533 := by
  have hw : wh [239, 191, 189] := by rw [wh3_iff]; unfold lo3 hi3; decide
  have e : L = [239, 191, 189] ++ L.drop 3 := by rw [← h, List.take_append_drop]
  refine ⟨?_, by rw [h]; decide⟩
  rw [e]
  exact wlen_wh _ _ hw
theorem bad_iff {L : List Int} (hB : Bytes L) (h0 : wlen L ≠ 0) : cp (L.take (wlen L)) = 65533 ↔ L.take 3 = [239, 191, 189] := by
  constructor
  · intro h
    obtain ⟨k1, _⟩ := wlen_pos h0
    obtain ⟨_, e⟩ := wh_enc _ (fun x hx => hB x (List.mem_of_mem_take hx)) k1
    rw [h] at e
    have e' : L.take (wlen L) = [239, 191, 189] := by rw [← e]; decide
    have hl := congrArg List.length e'
    obtain ⟨_, _, _, k4⟩ := wlen_pos h0
    rw [k4] at hl
    have hl3 : wlen L = 3 := hl
    rw [hl3] at e'
    exact e'
  · intro h
    obtain ⟨h1, h2⟩ := bad_take h
    rw [h1, h2]
theorem vd_sim (s : ByteArray) : ∀ (m n pos : Nat), pos ≤ s.size → s.size - pos ≤ m → s.size - pos < n → vd s n pos (pos : Int) = some (vb m ((bytesS s).drop pos)) := by
  intro m
  induction m with
  | zero =>
    intro n pos hp hm hn
    obtain rfl : pos = s.size := by omega
    obtain ⟨n, rfl⟩ : ∃ k, n = k + 1 := ⟨n - 1, by omega⟩
    simp only [vd, if_neg (show ¬ s.size < s.size by omega)]
    rw [List.drop_of_length_le (by rw [bytesS_length]; exact Nat.le_refl _)]
    simp [vb]
  | succ m ih =>
    intro n pos hp hm hn
    obtain ⟨n, rfl⟩ : ∃ k, n = k + 1 := ⟨n - 1, by omega⟩
    by_cases hlt : pos < s.size
    · have hne : (bytesS s).drop pos ≠ [] := by
        intro e
        have := congrArg List.length e
        rw [List.length_drop, bytesS_length] at this
        simp at this
        omega
      have hB : Bytes ((bytesS s).drop pos) := fun x hx => bytesS_bytes s x (List.mem_of_mem_drop hx)
      have hdec := decode_wlen s pos hlt
      simp only [vd, if_pos hlt, if_true]
      rw [vb_cons hne, broken_of s pos (by omega)]
      by_cases h0 : wlen ((bytesS s).drop pos) = 0
      · rw [if_pos h0] at hdec
        rw [hdec, if_pos h0]
        simp only [if_true, Option.bind_some]
        have hf : decide (((bytesS s).drop pos).take 3 = [239, 191, 189]) = false := decide_eq_false (fun h => by have := (bad_take h).1; omega)
        rw [hf]
        simp
      · rw [if_neg h0] at hdec
        obtain ⟨k1, k2, k3, k4⟩ := wlen_pos h0
        have hBt : Bytes (((bytesS s).drop pos).take (wlen ((bytesS s).drop pos))) := fun x hx => hB x (List.mem_of_mem_take hx)
        obtain ⟨e1, e2⟩ := wh_enc _ hBt k1
        have hc0 := cp_nonneg _ hBt k1
        have hle : wlen ((bytesS s).drop pos) ≤ s.size - pos := by
          rw [List.length_take, List.length_drop, bytesS_length] at k4
          omega
        have hen : (enc' (cp (((bytesS s).drop pos).take (wlen ((bytesS s).drop pos))))).length = wlen ((bytesS s).drop pos) := by
          unfold enc'
          rw [if_pos e1, e2, k4]
        have hnat : (((cp (((bytesS s).drop pos).take (wlen ((bytesS s).drop pos)))).toNat : Nat) : Int) = cp (((bytesS s).drop pos).take (wlen ((bytesS s).drop pos))) := Int.toNat_of_nonneg hc0
        have hgo := ih n (pos + wlen ((bytesS s).drop pos)) (by omega) (by omega) (by omega)
        rw [← List.drop_drop] at hgo
        rw [hdec, if_neg h0]
        simp only [hnat, hen]
        rw [show (pos : Int) + ((wlen ((bytesS s).drop pos) : Nat) : Int) = ((pos + wlen ((bytesS s).drop pos) : Nat) : Int) by omega, hgo]
        by_cases h5 : (cp (((bytesS s).drop pos).take (wlen ((bytesS s).drop pos)))).toNat = 65533
        · rw [if_pos h5]
          have : decide (((bytesS s).drop pos).take 3 = [239, 191, 189]) = true := decide_eq_true ((bad_iff hB h0).1 (by omega))
          rw [this]
          simp
        · rw [if_neg h5]
    · obtain rfl : pos = s.size := by omega
      simp only [vd, if_neg (show ¬ s.size < s.size by omega)]
      rw [List.drop_of_length_le (by rw [bytesS_length]; exact Nat.le_refl _)]
      simp [vb]
theorem rn_sim (s : ByteArray) : ∀ (m n pos : Nat) (acc : List Int), pos ≤ s.size → s.size - pos ≤ m → s.size - pos < n → vb m ((bytesS s).drop pos) = true → rnO s n pos acc = some (acc ++ sg m ((bytesS s).drop pos)) := by
  intro m
  induction m with
  | zero =>
    intro n pos acc hp hm hn _
    obtain rfl : pos = s.size := by omega
    obtain ⟨n, rfl⟩ : ∃ k, n = k + 1 := ⟨n - 1, by omega⟩
    simp only [rnO, if_neg (show ¬ s.size < s.size by omega)]
    rw [List.drop_of_length_le (by rw [bytesS_length]; exact Nat.le_refl _)]
    simp [sg]
  | succ m ih =>
    intro n pos acc hp hm hn hv
    obtain ⟨n, rfl⟩ : ∃ k, n = k + 1 := ⟨n - 1, by omega⟩
    by_cases hlt : pos < s.size
    · have hne : (bytesS s).drop pos ≠ [] := by
        intro e
        have := congrArg List.length e
        rw [List.length_drop, bytesS_length] at this
        simp at this
        omega
      have hB : Bytes ((bytesS s).drop pos) := fun x hx => bytesS_bytes s x (List.mem_of_mem_drop hx)
      have hdec := decode_wlen s pos hlt
      rw [vb_cons hne] at hv
      by_cases h0 : wlen ((bytesS s).drop pos) = 0
      · rw [if_pos h0] at hv; cases hv
      · rw [if_neg h0] at hdec hv
        obtain ⟨k1, k2, k3, k4⟩ := wlen_pos h0
        have hBt : Bytes (((bytesS s).drop pos).take (wlen ((bytesS s).drop pos))) := fun x hx => hB x (List.mem_of_mem_take hx)
        have hc0 := cp_nonneg _ hBt k1
        have hle : wlen ((bytesS s).drop pos) ≤ s.size - pos := by
          rw [List.length_take, List.length_drop, bytesS_length] at k4
          omega
        have hgo := ih n (pos + wlen ((bytesS s).drop pos)) (acc ++ [cp (((bytesS s).drop pos).take (wlen ((bytesS s).drop pos)))]) (by omega) (by omega) (by omega) (by rw [← List.drop_drop]; exact hv)
        rw [← List.drop_drop] at hgo
        simp only [rnO, if_pos hlt]
        rw [hdec, sg_cons hne]
        simp only [Int.toNat_of_nonneg hc0]
        rw [hgo, List.append_assoc, List.singleton_append]
    · obtain rfl : pos = s.size := by omega
      simp only [rnO, if_neg (show ¬ s.size < s.size by omega)]
      rw [List.drop_of_length_le (by rw [bytesS_length]; exact Nat.le_refl _)]
      simp [sg]
theorem rn_some (s : ByteArray) : ∀ (n pos : Nat) (acc : List Int), s.size - pos < n → ∃ R, rnO s n pos acc = some R := by
  intro n
  induction n with
  | zero => intro pos acc h; omega
  | succ n ih =>
    intro pos acc h
    simp only [rnO]
    by_cases hlt : pos < s.size
    · rw [if_pos hlt]
      have := decode_width s pos
      exact ih _ _ (by omega)
    · rw [if_neg hlt]
      exact ⟨_, rfl⟩
/-- Is a text signs alone? -/
def valS (s : ByteArray) : Bool := vb (bytesS s).length (bytesS s)
theorem valid_all (s : ByteArray) (w : World) (hs : s.size ≤ 1000000) : Calls Try.prog 28 #[.string s] w fun e w' => e = .returned (.bool (valS s)) ∧ Below w.heap.size w w' := by
  have h := vd_sim s s.size (s.size + 1) 0 (by omega) (by omega) (by omega)
  refine Valid_calls s (s.size + 1) (valS s) w hs ?_
  unfold valS
  rw [bytesS_length]
  exact h
/-- The signs of a text. -/
def runesL (s : ByteArray) : List Int := tells [] (bytesS s)
theorem runes_all (s : ByteArray) : ∃ (kv k : Nat) (b : Bool) (R : List Int), vd s kv 0 0 = some b ∧ rnO s k 0 [] = some R ∧ (if b = true then R else runesL s) = runesL s := by
  obtain ⟨R, hR⟩ := rn_some s (s.size + 1) 0 [] (by omega)
  refine ⟨s.size + 1, s.size + 1, vb s.size (bytesS s), R, vd_sim s s.size (s.size + 1) 0 (by omega) (by omega) (by omega), hR, ?_⟩
  split
  · rename_i hv
    have h1 := rn_sim s s.size (s.size + 1) 0 [] (by omega) (by omega) (by omega) hv
    rw [hR] at h1
    obtain rfl := Option.some.inj h1
    exact ((vb_all s.size (bytesS s) (by rw [bytesS_length]; exact Nat.le_refl _) (bytesS_bytes s) hv).1).symm
  · rfl
theorem Runes_all (s : ByteArray) (w : World) (hs : s.size ≤ 1000000) : Calls Try.prog 26 #[.string s] w fun e w' => ∃ A c, e = .returned (.slice A (runesL s).length c) ∧ (runesL s).length ≤ c ∧ Kd.C (Kd.int .i32) w' A (runesL s).length (runesL s) ∧ Below w.heap.size w w' := by
  obtain ⟨kv, k, b, R, h1, h2, h3⟩ := runes_all s
  have := Runes_calls s kv b k (runesL s) R w hs h1 rfl h2
  rw [h3] at this
  exact this
theorem Count_all (s : ByteArray) (w : World) (hs : s.size ≤ 1000000) : Calls Try.prog 27 #[.string s] w fun e w' => e = .returned (.int .i64 ((runesL s).length : Int)) ∧ Below w.heap.size w w' := by
  obtain ⟨kv, k, b, R, h1, h2, h3⟩ := runes_all s
  have := Count_calls s kv b k (runesL s) R w hs h1 rfl h2
  rw [h3] at this
  exact this
theorem bytesS_str (l : List Int) (h : Bytes l) : bytesS (strOfNums l) = l := by
  unfold bytesS strOfNums
  rw [List.map_map]
  conv => rhs; rw [← List.map_id l]
  refine List.map_congr_left fun x hx => ?_
  have := h x hx
  show ((UInt8.ofNat x.toNat).toNat : Int) = x
  rw [UInt8.toNat_ofNat', Nat.mod_eq_of_lt (by omega)]
  omega
theorem bytesS_inj {s t : ByteArray} (h : bytesS s = bytesS t) : s = t := by
  have hinj : ∀ x y : UInt8, (x.toNat : Int) = (y.toNat : Int) → x = y := fun x y h => UInt8.toNat_inj.1 (by omega)
  unfold bytesS at h
  rw [List.map_inj_right hinj] at h
  have := Array.toList_inj.1 h
  cases s; cases t
  simp_all
end Go.Proofs.Ytkckojgjkmcokaa.Sha
