/- Plain lemmas on the functions of this family (RecordReads): what each loop comes to. No condition. -/
import Derived.Test.YtaiiegbhbadciaaBase
import Derived.Test.YtaiiegbhbadciaaPF22Rx
namespace Go.Proofs.Ytaiiegbhbadciaa.LF22R
open Go.RowKit Go.Proofs.Ytaiiegbhbadciaa.Base Go.Proofs.YtaiiegbhbadciaaW.PrintWords Go.Proofs.YtaiiegbhbadciaaW.PrintMore Go.Proofs.Ytaiiegbhbadciaa.PF22R
set_option linter.unusedVariables false
set_option linter.unusedSimpArgs false

/-! ### batonref01 -/
theorem Same_l0 (a b : List Int) (h : a.length = b.length) (hl : a.length ≤ 9000000000000000000) : ∀ (d i : Nat), a.length - i = d → i ≤ a.length → Ev (fun k => batonref01_Same.l0 k a b (i : Int)) (decide (a.drop i = b.drop i)) := by
  intro d
  induction d with
  | zero =>
    intro i hd hi
    obtain rfl : i = a.length := by omega
    apply ev_succ
    simp only [batonref01_Same.l0, if_neg (show ¬ ((a.length : Int) < (a.length : Int)) by omega)]
    exact ev_eq (ev_some _) (by simp [h])
  | succ d ih =>
    intro i hd hi
    have hlt : i < a.length := by omega
    have hltb : i < b.length := by omega
    have hw : wrap64 ((i : Int) + 1) = ((i + 1 : Nat) : Int) := by rw [w64 (by omega) (by omega)]; omega
    apply ev_succ
    simp only [batonref01_Same.l0, if_pos (show (i : Int) < (a.length : Int) by omega), if_pos (show (0 : Int) ≤ (i : Int) by omega), if_pos (show (i : Int) < (b.length : Int) by omega), rd_lt hlt, rd_lt hltb, hw]
    have key : (a.drop i = b.drop i) ↔ (a[i] = b[i] ∧ a.drop (i + 1) = b.drop (i + 1)) := by
      rw [List.drop_eq_getElem_cons hlt, List.drop_eq_getElem_cons hltb]
      exact List.cons_eq_cons
    by_cases e : a[i] = b[i]
    · simp only [if_pos e]
      refine ev_eq (ih (i + 1) (by omega) (by omega)) ?_
      simp only [key, e, true_and]
    · simp only [if_neg e]
      refine ev_eq (ev_some _) ?_
      simp only [key, e, false_and, decide_false]
theorem Same_ev (a b : List Int) (hl : a.length ≤ 9000000000000000000) : Ev (fun k => batonref01_Same.f k a b) (decide (a = b)) := by
  unfold batonref01_Same.f
  by_cases h : a.length = b.length
  · simp only [if_pos (show (a.length : Int) = (b.length : Int) by omega)]
    exact ev_eq (Same_l0 a b h hl a.length 0 (by omega) (by omega)) (by simp)
  · simp only [if_neg (show ¬ ((a.length : Int) = (b.length : Int)) by omega)]
    exact ev_eq (ev_some _) (by simp; intro e; exact h (by rw [e]))

/-! ### numbers out of bytes -/
def stepN (n b : Int) : Int := n * 256 % 18446744073709551616 + b
def num (xs : List Int) : Int := xs.foldl stepN 0
theorem stepN_range {n b : Int} (hn : 0 ≤ n) (hb : 0 ≤ b ∧ b ≤ 255) : 0 ≤ stepN n b ∧ stepN n b ≤ 18446744073709551615 := by unfold stepN; omega

/-! ### word.Put, word.Get -/
/-- The lowest s bytes of n, the highest first. -/
def be : Nat → Int → List Int
  | 0, _ => []
  | s + 1, n => (n / 2 ^ (8 * s) % 256) :: be s n
theorem be_length (s : Nat) (n : Int) : (be s n).length = s := by induction s with
  | zero => rfl
  | succ s ih => simp [be, ih]
theorem be_bytes (s : Nat) (n : Int) : Bytes (be s n) := by
  induction s with
  | zero => intro x hx; cases hx
  | succ s ih =>
    intro x hx
    simp only [be, List.mem_cons] at hx
    rcases hx with rfl | hx
    · omega
    · exact ih x hx
theorem set_rep (m : Nat) (t : List Int) (v : Int) : (List.replicate (m + 1) 0 ++ t).set m v = List.replicate m 0 ++ v :: t := by
  induction m with
  | zero => rfl
  | succ m ih => rw [List.replicate_succ, List.cons_append, List.set_cons_succ, ih, List.replicate_succ, List.cons_append]
theorem Put_l0 (n : Int) (size : Nat) (hs : size ≤ 8) (h0 : 0 ≤ n) (h1 : n ≤ 18446744073709551615) : ∀ (d i : Nat), size - i = d → i ≤ size →
    Ev (fun k => word_Put.l0 k n (size : Int) (List.replicate (size - i) 0 ++ be i n) (size : Int) (i : Int)) (be size n, 0) := by
  intro d
  induction d with
  | zero =>
    intro i hd hi
    obtain rfl : i = size := by omega
    apply ev_succ
    simp only [word_Put.l0, if_neg (show ¬ ((i : Int) < (i : Int)) by omega)]
    exact ev_eq (ev_some _) (by simp)
  | succ d ih =>
    intro i hd hi
    have hlt : i < size := by omega
    have hw : wrap64 ((i : Int) + 1) = ((i + 1 : Nat) : Int) := by rw [w64 (by omega) (by omega)]; omega
    have hq : IntKind.u64.wrap (wrap64 (8 * (i : Int))) = ((8 * i : Nat) : Int) := by rw [w64 (by omega) (by omega), u64 (by omega) (by omega)]; omega
    have hp : wrap64 (wrap64 ((size : Int) - 1) - (i : Int)) = ((size - 1 - i : Nat) : Int) := by rw [w64 (x := (size : Int) - 1) (by omega) (by omega), w64 (by omega) (by omega)]; omega
    have hlen : (List.replicate (size - i) (0 : Int) ++ be i n).length = size := by rw [List.length_append, List.length_replicate, be_length]; omega
    have hsh : shr .u64 n ((8 * i : Nat) : Int) % 256 = n / 2 ^ (8 * i) % 256 := by
      unfold shr
      rw [Int.toNat_natCast, Nat.min_eq_left (by show 8 * i ≤ 64; omega)]
    apply ev_succ
    simp only [word_Put.l0, if_pos (show (i : Int) < (size : Int) by omega), hq, hp, if_pos (show (0 : Int) ≤ ((8 * i : Nat) : Int) by omega), if_pos (show (0 : Int) ≤ ((size - 1 - i : Nat) : Int) by omega), hlen, if_pos (show ((size - 1 - i : Nat) : Int) < (size : Int) by omega), hw, Int.toNat_natCast, hsh]
    have e : (List.replicate (size - i) (0 : Int) ++ be i n).set (size - 1 - i) (n / 2 ^ (8 * i) % 256) = List.replicate (size - (i + 1)) 0 ++ be (i + 1) n := by
      obtain ⟨m, hm⟩ : ∃ m, size - i = m + 1 := ⟨size - i - 1, by omega⟩
      rw [hm, show size - 1 - i = m by omega, set_rep, show size - (i + 1) = m by omega]
      rfl
    rw [e]
    exact ih (i + 1) (by omega) (by omega)
def putSpec (n size : Int) : List Int × Int := if size < 1 ∨ size > 8 then ([], 1) else if size < 8 ∧ n / 2 ^ (8 * size).toNat ≠ 0 then ([], 22) else (be size.toNat n, 0)
theorem Put_ev (n size : Int) (h0 : 0 ≤ n) (h1 : n ≤ 18446744073709551615) : Ev (fun k => word_Put.f k n size) (putSpec n size) := by
  unfold word_Put.f putSpec
  by_cases c1 : size < 1
  · simp only [if_pos c1, if_pos (show size < 1 ∨ size > 8 from .inl c1)]
    apply ev_succ
    simp only [word_Put.j0, if_true]
    exact ev_some _
  · simp only [if_neg c1]
    apply ev_succ
    by_cases c2 : size > 8
    · simp only [word_Put.j0, decide_eq_true c2, if_true, if_pos (show size < 1 ∨ size > 8 from .inr c2)]
      exact ev_some _
    · rw [if_neg (show ¬ (size < 1 ∨ size > 8) by omega)]
      simp only [word_Put.j0, decide_eq_false c2, if_false, Bool.false_eq_true]
      obtain ⟨s, rfl⟩ := Int.eq_ofNat_of_zero_le (show 0 ≤ size by omega)
      have last : Ev (fun k => word_Put.j1 k n (s : Int) false) (be s n, 0) := by
        apply ev_succ
        have hle : s ≤ 281474976710656 := by omega
        simp only [word_Put.j1, if_false, Bool.false_eq_true, if_pos (show (0 : Int) ≤ (s : Int) by omega), Int.toNat_natCast, if_pos hle, Option.bind_some, List.length_replicate]
        have := Put_l0 n s (by omega) h0 h1 s 0 (by omega) (by omega)
        simpa [be] using this
      by_cases c3 : (s : Int) < 8
      · have hq : IntKind.u64.wrap (wrap64 (8 * (s : Int))) = ((8 * s : Nat) : Int) := by rw [w64 (by omega) (by omega), u64 (by omega) (by omega)]; omega
        have hsh : shr .u64 n ((8 * s : Nat) : Int) = n / 2 ^ (8 * s) := by
          unfold shr
          rw [Int.toNat_natCast, Nat.min_eq_left (by show 8 * s ≤ 64; omega)]
        have ht : (8 * (s : Int)).toNat = 8 * s := by omega
        simp only [if_pos c3, hq, if_pos (show (0 : Int) ≤ ((8 * s : Nat) : Int) by omega), hsh, ht, Int.toNat_natCast]
        by_cases c4 : n / 2 ^ (8 * s) = 0
        · rw [if_neg (show ¬ ((s : Int) < 8 ∧ n / 2 ^ (8 * s) ≠ 0) from fun h => h.2 c4)]
          simp only [c4, bne_self_eq_false]
          exact last
        · rw [if_pos ⟨c3, c4⟩]
          have : (n / 2 ^ (8 * s) != 0) = true := by simpa using c4
          simp only [this]
          apply ev_succ
          simp only [word_Put.j1, if_true]
          exact ev_some _
      · simp only [if_neg c3, Int.toNat_natCast]
        rw [if_neg (show ¬ ((s : Int) < 8 ∧ _) from fun h => c3 h.1)]
        exact last
theorem Get_l0 (xs : List Int) (hx : Bytes xs) (hl : xs.length ≤ 9000000000000000000) : ∀ (d i : Nat) (acc : Int), xs.length - i = d → i ≤ xs.length → 0 ≤ acc → acc ≤ 18446744073709551615 → Ev (fun k => word_Get.l0 k acc xs (xs.length : Int) (i : Int)) ((xs.drop i).foldl stepN acc, 0) := by
  intro d
  induction d with
  | zero =>
    intro i acc hd hi h0 h1
    obtain rfl : i = xs.length := by omega
    apply ev_succ
    simp only [word_Get.l0, if_neg (show ¬ ((xs.length : Int) < (xs.length : Int)) by omega)]
    exact ev_eq (ev_some _) (by simp)
  | succ d ih =>
    intro i acc hd hi h0 h1
    have hlt : i < xs.length := by omega
    have hw : wrap64 ((i : Int) + 1) = ((i + 1 : Nat) : Int) := by rw [w64 (by omega) (by omega)]; omega
    have hb := hx.rd (i := (i : Int)) (by omega) (by omega)
    rw [rd_lt hlt] at hb
    have hs := stepN_range h0 hb
    have e : Go.bits .or .u64 (IntKind.u64.wrap (acc * 256)) (IntKind.u64.wrap (rd xs (i : Int))) = stepN acc xs[i] := by
      rw [rd_lt hlt, u64m (acc * 256), u64 hb.1 (by omega)]
      rw [or_u64_join 8 (by omega) (by omega) (by omega) (by omega) (by omega) (by omega)]
      rfl
    apply ev_succ
    simp only [word_Get.l0, if_pos (show (i : Int) < (xs.length : Int) by omega), if_pos (show (0 : Int) ≤ (i : Int) by omega), hw, e]
    refine ev_eq (ih (i + 1) _ (by omega) (by omega) hs.1 hs.2) ?_
    rw [List.drop_eq_getElem_cons hlt, List.foldl_cons]
def getSpec (xs : List Int) : Int × Int := if xs.length < 1 ∨ 8 < xs.length then (0, 1) else (num xs, 0)
theorem Get_ev (xs : List Int) (hx : Bytes xs) (hl : xs.length ≤ 9000000000000000000) : Ev (fun k => word_Get.f k xs) (getSpec xs) := by
  unfold word_Get.f getSpec
  by_cases c1 : (xs.length : Int) < 1
  · simp only [if_pos c1, if_pos (show xs.length < 1 ∨ 8 < xs.length by omega)]
    apply ev_succ
    simp only [word_Get.j0, if_true]
    exact ev_some _
  · simp only [if_neg c1]
    apply ev_succ
    by_cases c2 : (xs.length : Int) > 8
    · simp only [word_Get.j0, decide_eq_true c2, if_true, if_pos (show xs.length < 1 ∨ 8 < xs.length by omega)]
      exact ev_some _
    · rw [if_neg (show ¬ (xs.length < 1 ∨ 8 < xs.length) by omega)]
      simp only [word_Get.j0, decide_eq_false c2, if_false, Bool.false_eq_true]
      exact Get_l0 xs hx hl xs.length 0 0 (by omega) (by omega) (by omega) (by omega)
theorem pow8 (s : Nat) : (2 : Nat) ^ (8 * s) = 256 ^ s := by rw [Nat.pow_mul]
theorem num_be_aux (n : Nat) : ∀ (s a : Nat), (a + 1) * 256 ^ s ≤ 18446744073709551616 → (be s (n : Int)).foldl stepN (a : Int) = ((a * 256 ^ s + n % 256 ^ s : Nat) : Int) := by
  intro s
  induction s with
  | zero => intro a h; simp [be, Nat.mod_one]
  | succ s ih =>
    intro a h
    have h256 : 1 ≤ 256 ^ s := by have := Nat.two_pow_pos (8 * s); rw [pow8] at this; exact this
    have hpow : 256 ^ (s + 1) = 256 * 256 ^ s := by rw [Nat.pow_succ, Nat.mul_comm]
    rw [hpow] at h
    have ha : (a + 1) * 256 ≤ 18446744073709551616 := by
      have h2 : (a + 1) * 256 * 256 ^ s ≤ 18446744073709551616 := by rw [Nat.mul_assoc]; exact h
      exact Nat.le_trans (Nat.le_mul_of_pos_right _ h256) h2
    simp only [be, List.foldl_cons]
    have e : stepN (a : Int) ((n : Int) / 2 ^ (8 * s) % 256) = ((a * 256 + n / 256 ^ s % 256 : Nat) : Int) := by
      unfold stepN
      rw [show (2 : Int) ^ (8 * s) = ((256 ^ s : Nat) : Int) by rw [← pow8]; simp]
      rw [← Int.natCast_ediv]
      omega
    rw [e, ih]
    · have hm : n % (256 * 256 ^ s) = n % 256 ^ s + 256 ^ s * (n / 256 ^ s % 256) := by rw [Nat.mul_comm 256]; exact Nat.mod_mul
      rw [hpow, hm, Nat.add_mul, Nat.mul_assoc, Nat.mul_comm (n / 256 ^ s % 256)]
      omega
    · have : (a * 256 + n / 256 ^ s % 256 + 1) ≤ (a + 1) * 256 := by omega
      have h2 := Nat.mul_le_mul_right (256 ^ s) this
      rw [Nat.mul_assoc] at h2
      exact Nat.le_trans h2 h
theorem num_be {n : Int} {s : Nat} (hs : s ≤ 8) (h0 : 0 ≤ n) (hn : n < 2 ^ (8 * s)) : num (be s n) = n := by
  obtain ⟨m, rfl⟩ := Int.eq_ofNat_of_zero_le h0
  have hm : m < 256 ^ s := by
    have : (2 : Int) ^ (8 * s) = ((256 ^ s : Nat) : Int) := by rw [← pow8]; simp
    rw [this] at hn
    omega
  have h8 : 256 ^ s ≤ 18446744073709551616 := by
    have := Nat.pow_le_pow_right (show 0 < 256 by decide) hs
    simpa using this
  have := num_be_aux m s 0 (by simpa using h8)
  unfold num
  rw [show (0 : Int) = ((0 : Nat) : Int) from rfl, this, Nat.mod_eq_of_lt hm]
  simp

/-! ### numbers of bytes -/
theorem refGet_l0 (xs : List Int) (hx : Bytes xs) (hl : xs.length ≤ 9000000000000000000) : ∀ (d i : Nat) (acc : Int), xs.length - i = d → i ≤ xs.length → 0 ≤ acc → acc ≤ 18446744073709551615 → Ev (fun k => batonref01_Get.l0 k xs acc (i : Int)) ((xs.drop i).foldl stepN acc) := by
  intro d
  induction d with
  | zero =>
    intro i acc hd hi h0 h1
    obtain rfl : i = xs.length := by omega
    apply ev_succ
    simp only [batonref01_Get.l0, if_neg (show ¬ ((xs.length : Int) < (xs.length : Int)) by omega)]
    exact ev_eq (ev_some _) (by simp)
  | succ d ih =>
    intro i acc hd hi h0 h1
    have hlt : i < xs.length := by omega
    have hw : wrap64 ((i : Int) + 1) = ((i + 1 : Nat) : Int) := by rw [w64 (by omega) (by omega)]; omega
    have hb := hx.rd (i := (i : Int)) (by omega) (by omega)
    rw [rd_lt hlt] at hb
    have hs := stepN_range h0 hb
    have e : IntKind.u64.wrap ((IntKind.u64.wrap (acc * 256)) + (IntKind.u64.wrap (rd xs (i : Int)))) = stepN acc xs[i] := by
      rw [rd_lt hlt, u64m (acc * 256), u64 hb.1 (by omega), u64m]
      unfold stepN at *
      omega
    apply ev_succ
    simp only [batonref01_Get.l0, if_pos (show (i : Int) < (xs.length : Int) by omega), if_pos (show (0 : Int) ≤ (i : Int) by omega), hw, e]
    refine ev_eq (ih (i + 1) _ (by omega) (by omega) hs.1 hs.2) ?_
    rw [List.drop_eq_getElem_cons hlt, List.foldl_cons]
theorem refGet_ev (xs : List Int) (hx : Bytes xs) (hl : xs.length ≤ 9000000000000000000) : Ev (fun k => batonref01_Get.f k xs) (num xs) := by
  unfold batonref01_Get.f
  exact refGet_l0 xs hx hl xs.length 0 0 (by omega) (by omega) (by omega) (by omega)

/-! ### check sums -/
def stp (c : Nat) : Nat := if c % 2 = 1 then c / 2 ^^^ 2197175160 else c / 2
def stps : Nat → Nat → Nat
  | 0, c => c
  | n + 1, c => stps n (stp c)
theorem stp_xor (a b : Nat) : stp (a ^^^ b) = stp a ^^^ stp b := by
  have h := @Nat.xor_mod_two_eq_one a b
  unfold stp
  rw [Nat.xor_div_two]
  by_cases ha : a % 2 = 1
  · by_cases hb : b % 2 = 1
    · rw [if_neg (by rw [h]; simp [ha, hb]), if_pos ha, if_pos hb]
      rw [Nat.xor_assoc, Nat.xor_comm 2197175160, Nat.xor_assoc, Nat.xor_self, Nat.xor_zero]
    · rw [if_pos (by rw [h]; simp [ha, hb]), if_pos ha, if_neg hb]
      rw [Nat.xor_assoc, Nat.xor_comm (b / 2), ← Nat.xor_assoc]
  · by_cases hb : b % 2 = 1
    · rw [if_pos (by rw [h]; simp [ha, hb]), if_neg ha, if_pos hb, Nat.xor_assoc]
    · rw [if_neg (by rw [h]; simp [ha, hb]), if_neg ha, if_neg hb]
theorem stps_xor (n a b : Nat) : stps n (a ^^^ b) = stps n a ^^^ stps n b := by
  induction n generalizing a b with
  | zero => rfl
  | succ n ih => simp only [stps, stp_xor, ih]
theorem stp_lt {c : Nat} (h : c < 4294967296) : stp c < 4294967296 := by
  unfold stp
  split
  · exact Nat.xor_lt_two_pow (n := 32) (by omega) (by decide)
  · omega
theorem stps_lt (n : Nat) {c : Nat} (h : c < 4294967296) : stps n c < 4294967296 := by
  induction n generalizing c with
  | zero => exact h
  | succ n ih => exact ih (stp_lt h)
theorem stp_even (m : Nat) : stp (2 * m) = m := by
  unfold stp
  rw [if_neg (by omega)]
  omega
theorem xor_eq_zero {a b : Nat} (h : a ^^^ b = 0) : a = b := by
  have h2 : a ^^^ (a ^^^ b) = a := by rw [h, Nat.xor_zero]
  rw [← Nat.xor_assoc, Nat.xor_self, Nat.zero_xor] at h2
  exact h2.symm
theorem stp_zero {c : Nat} (h : c < 4294967296) (e : stp c = 0) : c = 0 := by
  unfold stp at e
  split at e
  · have := xor_eq_zero e
    omega
  · omega
theorem stps_zero (n : Nat) {c : Nat} (h : c < 4294967296) (e : stps n c = 0) : c = 0 := by
  induction n generalizing c with
  | zero => exact e
  | succ n ih => exact stp_zero h (ih (stp_lt h) e)
theorem stps_of_zero (n : Nat) : stps n 0 = 0 := by
  induction n with
  | zero => rfl
  | succ n ih => exact ih
theorem join_xor (n z t : Nat) (h : t < 2 ^ n) : 2 ^ n * z + t = 2 ^ n * z ^^^ t := by
  apply Nat.eq_of_testBit_eq
  intro j
  have h0 : (2 ^ n * z).testBit j = if j < n then false else z.testBit (j - n) := by
    have := Nat.testBit_two_pow_mul_add z (b := 0) (i := n) (Nat.two_pow_pos n) j
    rw [Nat.add_zero] at this
    rw [this]
    simp
  rw [Nat.testBit_two_pow_mul_add z h, Nat.testBit_xor, h0]
  split
  · simp
  · rw [Nat.testBit_lt_two_pow (Nat.lt_of_lt_of_le h (Nat.pow_le_pow_right (by decide) (by omega)))]
    simp
theorem stps8_high (z : Nat) : stps 8 (256 * z) = z := by
  simp only [stps]
  rw [show 256 * z = 2 * (128 * z) by omega, stp_even, show 128 * z = 2 * (64 * z) by omega, stp_even, show 64 * z = 2 * (32 * z) by omega, stp_even, show 32 * z = 2 * (16 * z) by omega, stp_even, show 16 * z = 2 * (8 * z) by omega, stp_even, show 8 * z = 2 * (4 * z) by omega, stp_even, show 4 * z = 2 * (2 * z) by omega, stp_even, stp_even]
theorem stps8_split (y : Nat) : stps 8 y = y / 256 ^^^ stps 8 (y % 256) := by
  have h := join_xor 8 (y / 256) (y % 256) (by omega)
  rw [show 2 ^ 8 * (y / 256) + y % 256 = y by omega] at h
  conv => lhs; rw [h]
  rw [stps_xor, show (2 : Nat) ^ 8 = 256 from rfl, stps8_high]
theorem not32 {c : Nat} (h : c < 4294967296) : 4294967295 ^^^ c = 4294967295 - c := by
  have e : (BitVec.allOnes 32 ^^^ BitVec.ofNat 32 c).toNat = 4294967295 ^^^ c := by
    rw [BitVec.toNat_xor, BitVec.toNat_ofNat, Nat.mod_eq_of_lt (by simpa using h)]
    rfl
  rw [← e, BitVec.allOnes_xor, BitVec.toNat_not, BitVec.toNat_ofNat, Nat.mod_eq_of_lt (by simpa using h)]
/-- The register behind more bytes. -/
def crcN (c : Nat) (l : List Int) : Nat := l.foldl (fun c x => stps 8 (c ^^^ x.toNat)) c
theorem byteStep {c x : Nat} (hc : c < 4294967296) (hx : x < 256) : stps 8 (c ^^^ x) = c / 256 ^^^ stps 8 ((c ^^^ x) % 256) := by
  rw [stps8_split]
  congr 1
  have : (c ^^^ x) / 2 ^ 8 = c / 2 ^ 8 ^^^ x / 2 ^ 8 := Nat.xor_div_two_pow
  rw [show (256 : Nat) = 2 ^ 8 from rfl, this, show x / 2 ^ 8 = 0 by omega, Nat.xor_zero]
theorem byte_lt {c x : Nat} (hc : c < 4294967296) (hx : x < 256) : stps 8 (c ^^^ x) < 4294967296 := stps_lt 8 (Nat.xor_lt_two_pow (n := 32) (by omega) (by omega))
theorem step_eq {c : Nat} (h : c < 4294967296) : crc_step.f (c : Int) = some ((stp c : Nat) : Int) := by
  unfold crc_step.f stp
  have h1 : Go.bits .and .u32 (c : Int) 1 = ((c % 2 : Nat) : Int) := by
    rw [show (1 : Int) = ((1 : Nat) : Int) from rfl, u32_and_nat c 1 h (by decide), nat_mask1]
  have h2 : Go.bits .xor .u32 ((c : Int) / 2) 2197175160 = ((c / 2 ^^^ 2197175160 : Nat) : Int) := by
    rw [show ((c : Int) / 2) = ((c / 2 : Nat) : Int) by omega, show (2197175160 : Int) = ((2197175160 : Nat) : Int) from rfl, u32_xor_nat _ _ (by omega) (by decide)]
  rw [h1, h2]
  by_cases e : c % 2 = 1
  · rw [if_pos (by omega), if_pos e]
  · rw [if_neg (by omega), if_neg e]
    rfl
theorem entry_l0 : ∀ (d i : Nat) {c : Nat}, c < 4294967296 → 8 - i = d → i ≤ 8 → Ev (fun k => crc_entry.l0 k (c : Int) (i : Int)) ((stps (8 - i) c : Nat) : Int) := by
  intro d
  induction d with
  | zero =>
    intro i c hc hd hi
    obtain rfl : i = 8 := by omega
    apply ev_succ
    simp only [crc_entry.l0, if_neg (show ¬ (((8 : Nat) : Int) < 8) by decide)]
    exact ev_some _
  | succ d ih =>
    intro i c hc hd hi
    have hw : wrap64 ((i : Int) + 1) = ((i + 1 : Nat) : Int) := by rw [w64 (by omega) (by omega)]; omega
    apply ev_succ
    simp only [crc_entry.l0, if_pos (show (i : Int) < 8 by omega), hw]
    refine ev_bind1 (step_eq hc) ?_
    refine ev_eq (ih (i + 1) (stp_lt hc) (by omega) (by omega)) ?_
    rw [show 8 - i = (8 - (i + 1)) + 1 by omega]
    rfl
theorem entry_ev {c : Nat} (hc : c < 4294967296) : Ev (fun k => crc_entry.f k (c : Int)) ((stps 8 c : Nat) : Int) := by
  unfold crc_entry.f
  have := entry_l0 8 0 hc (by omega) (by omega)
  simpa using this
theorem crcN_lt (l : List Int) (hl : Bytes l) : ∀ {c : Nat}, c < 4294967296 → crcN c l < 4294967296 := by
  induction l with
  | nil => exact fun h => h
  | cons x l ih =>
    intro c h
    have hx := hl x (by simp)
    exact ih (fun y hy => hl y (by simp [hy])) (byte_lt h (by omega))
theorem More_l0 (l : List Int) (hb : Bytes l) (hl : l.length ≤ 9000000000000000000) : ∀ (d i : Nat) {c : Nat}, c < 4294967296 → l.length - i = d → i ≤ l.length →
    Ev (fun k => crc_More.l0 k (c : Int) l (l.length : Int) (i : Int)) (4294967295 - (crcN c (l.drop i) : Int)) := by
  intro d
  induction d with
  | zero =>
    intro i c hc hd hi
    obtain rfl : i = l.length := by omega
    apply ev_succ
    simp only [crc_More.l0, if_neg (show ¬ ((l.length : Int) < (l.length : Int)) by omega)]
    refine ev_eq (ev_some _) ?_
    rw [show (4294967295 : Int) = ((4294967295 : Nat) : Int) from rfl, u32_xor_nat _ _ (by decide) hc, not32 hc, List.drop_length]
    show _ = ((4294967295 : Nat) : Int) - (c : Int)
    omega
  | succ d ih =>
    intro i c hc hd hi
    have hlt : i < l.length := by omega
    have hw : wrap64 ((i : Int) + 1) = ((i + 1 : Nat) : Int) := by rw [w64 (by omega) (by omega)]; omega
    have hx := hb _ (List.getElem_mem hlt)
    obtain ⟨x, ex⟩ := Int.eq_ofNat_of_zero_le hx.1
    have hx256 : x < 256 := by omega
    have hcx : c ^^^ x < 4294967296 := Nat.xor_lt_two_pow (n := 32) (by omega) (by omega)
    have e1 : Go.bits .and .u32 (Go.bits .xor .u32 (c : Int) ((rd l (i : Int)) % 4294967296)) 255 = (((c ^^^ x) % 256 : Nat) : Int) := by
      rw [rd_lt hlt, ex, show (x : Int) % 4294967296 = (x : Int) by omega, u32_xor_nat c x hc (by omega), show (255 : Int) = ((255 : Nat) : Int) from rfl, u32_and_nat _ _ hcx (by decide), nat_mask8]
    have e2 : Go.bits .xor .u32 ((c : Int) / 256) ((stps 8 ((c ^^^ x) % 256) : Nat) : Int) = ((stps 8 (c ^^^ x) : Nat) : Int) := by
      rw [show (c : Int) / 256 = ((c / 256 : Nat) : Int) by omega, u32_xor_nat _ _ (by omega) (stps_lt 8 (by omega)), byteStep hc hx256]
    apply ev_succ
    simp only [crc_More.l0, if_pos (show (i : Int) < (l.length : Int) by omega), if_pos (show (0 : Int) ≤ (i : Int) by omega), hw, e1]
    refine ev_bind (entry_ev (by omega)) ?_
    rw [e2]
    refine ev_eq (ih (i + 1) (byte_lt hc hx256) (by omega) (by omega)) ?_
    rw [List.drop_eq_getElem_cons hlt, ex]
    rfl
/-- The sum behind more bytes. -/
def sumS (sum : Int) (l : List Int) : Int := 4294967295 - (crcN (4294967295 - sum).toNat l : Int)
theorem More_ev (sum : Int) (l : List Int) (h0 : 0 ≤ sum) (h1 : sum ≤ 4294967295) (hb : Bytes l) (hl : l.length ≤ 9000000000000000000) : Ev (fun k => crc_More.f k sum l) (sumS sum l) := by
  unfold crc_More.f sumS
  obtain ⟨c, rfl⟩ := Int.eq_ofNat_of_zero_le h0
  have e : Go.bits .xor .u32 4294967295 (c : Int) = (((4294967295 - (c : Int)).toNat : Nat) : Int) := by
    rw [show (4294967295 : Int) = ((4294967295 : Nat) : Int) from rfl, u32_xor_nat _ _ (by decide) (by omega), not32 (by omega)]
    omega
  simp only [e]
  have := More_l0 l hb hl l.length 0 (c := (4294967295 - (c : Int)).toNat) (by omega) (by omega) (by omega)
  simpa using this
theorem sumS_range (sum : Int) (l : List Int) (h0 : 0 ≤ sum) (h1 : sum ≤ 4294967295) (hb : Bytes l) : 0 ≤ sumS sum l ∧ sumS sum l ≤ 4294967295 := by
  unfold sumS
  have := crcN_lt l hb (c := (4294967295 - sum).toNat) (by omega)
  omega
theorem Sum_ev (l : List Int) (hb : Bytes l) (hl : l.length ≤ 9000000000000000000) : Ev (fun k => crc_Sum.f k l) (sumS 0 l) := by
  unfold crc_Sum.f
  exact ev_bind (More_ev 0 l (by omega) (by omega) hb hl) (ev_some _)

theorem refMore_l1 (l : List Int) (j : Nat) (r : Int) : ∀ (d i : Nat) {c : Nat}, c < 4294967296 → 8 - i = d → i ≤ 8 →
    Ev (fun k => batonref07_More.l0 k l ((stps (8 - i) c : Nat) : Int) (wrap64 ((j : Int) + 1))) r → Ev (fun k => batonref07_More.l1 k l (c : Int) (j : Int) (i : Int)) r := by
  intro d
  induction d with
  | zero =>
    intro i c hc hd hi h
    obtain rfl : i = 8 := by omega
    apply ev_succ
    simp only [batonref07_More.l1, if_neg (show ¬ (((8 : Nat) : Int) < 8) by decide)]
    exact h
  | succ d ih =>
    intro i c hc hd hi h
    have hw : wrap64 ((i : Int) + 1) = ((i + 1 : Nat) : Int) := by rw [w64 (by omega) (by omega)]; omega
    have h2 : Int.tdiv (c : Int) 2 % 4294967296 = ((c / 2 : Nat) : Int) := by rw [Int.tdiv_eq_ediv_of_nonneg (Int.natCast_nonneg _)]; omega
    have h3 : Int.tmod (c : Int) 2 = ((c % 2 : Nat) : Int) := by rw [Int.tmod_eq_emod_of_nonneg (Int.natCast_nonneg _)]; omega
    have h4 : Go.bits .xor .u32 ((c / 2 : Nat) : Int) 2197175160 = ((c / 2 ^^^ 2197175160 : Nat) : Int) := by
      rw [show (2197175160 : Int) = ((2197175160 : Nat) : Int) from rfl, u32_xor_nat _ _ (by omega) (by decide)]
    rw [show 8 - i = (8 - (i + 1)) + 1 by omega] at h
    apply ev_succ
    simp only [batonref07_More.l1, if_pos (show (i : Int) < 8 by omega), hw, h2, h3, h4]
    by_cases e : c % 2 = 1
    · simp only [if_pos (show ((c % 2 : Nat) : Int) = 1 by omega)]
      have es : stp c = c / 2 ^^^ 2197175160 := by unfold stp; rw [if_pos e]
      rw [← es]
      exact ih (i + 1) (stp_lt hc) (by omega) (by omega) h
    · simp only [if_neg (show ¬ (((c % 2 : Nat) : Int) = 1) by omega)]
      have es : stp c = c / 2 := by unfold stp; rw [if_neg e]
      rw [← es]
      exact ih (i + 1) (stp_lt hc) (by omega) (by omega) h
theorem refMore_l0 (l : List Int) (hb : Bytes l) (hl : l.length ≤ 9000000000000000000) : ∀ (d i : Nat) {c : Nat}, c < 4294967296 → l.length - i = d → i ≤ l.length →
    Ev (fun k => batonref07_More.l0 k l (c : Int) (i : Int)) (4294967295 - (crcN c (l.drop i) : Int)) := by
  intro d
  induction d with
  | zero =>
    intro i c hc hd hi
    obtain rfl : i = l.length := by omega
    apply ev_succ
    simp only [batonref07_More.l0, if_neg (show ¬ ((l.length : Int) < (l.length : Int)) by omega)]
    refine ev_eq (ev_some _) ?_
    rw [List.drop_length]
    show _ = (4294967295 : Int) - (c : Int)
    omega
  | succ d ih =>
    intro i c hc hd hi
    have hlt : i < l.length := by omega
    have hw : wrap64 ((i : Int) + 1) = ((i + 1 : Nat) : Int) := by rw [w64 (by omega) (by omega)]; omega
    have hx := hb _ (List.getElem_mem hlt)
    obtain ⟨x, ex⟩ := Int.eq_ofNat_of_zero_le hx.1
    have hcx : c ^^^ x < 4294967296 := Nat.xor_lt_two_pow (n := 32) (by omega) (by omega)
    have e1 : Go.bits .xor .u32 (c : Int) ((rd l (i : Int)) % 4294967296) = ((c ^^^ x : Nat) : Int) := by
      rw [rd_lt hlt, ex, show (x : Int) % 4294967296 = (x : Int) by omega, u32_xor_nat c x hc (by omega)]
    apply ev_succ
    simp only [batonref07_More.l0, if_pos (show (i : Int) < (l.length : Int) by omega), if_pos (show (0 : Int) ≤ (i : Int) by omega), e1]
    refine refMore_l1 l i _ 8 0 hcx (by omega) (by omega) ?_
    rw [hw]
    refine ev_eq (ih (i + 1) (stps_lt 8 hcx) (by omega) (by omega)) ?_
    rw [List.drop_eq_getElem_cons hlt, ex]
    rfl
theorem refMore_ev (sum : Int) (l : List Int) (h0 : 0 ≤ sum) (h1 : sum ≤ 4294967295) (hb : Bytes l) (hl : l.length ≤ 9000000000000000000) : Ev (fun k => batonref07_More.f k sum l) (sumS sum l) := by
  unfold batonref07_More.f sumS
  have e : (4294967295 - sum) % 4294967296 = (((4294967295 - sum).toNat : Nat) : Int) := by omega
  simp only [e]
  have := refMore_l0 l hb hl l.length 0 (c := (4294967295 - sum).toNat) (by omega) (by omega) (by omega)
  simpa using this

/-! ### records -/
def le4 (s : Int) : List Int := [s % 256, s / 256 % 256, s / 65536 % 256, s / 16777216 % 256]
theorem sums_ev (l : List Int) (hb : Bytes l) (hl : l.length ≤ 9000000000000000000) : Ev (fun k => record_sums.f k l) (le4 (sumS 0 l)) := by
  unfold record_sums.f
  exact ev_bind (Sum_ev l hb hl) (ev_some _)
/-- What stands ahead of the sum, with a record's numbers. -/
def pre (g n : Int) (d : List Int) : List Int := be 8 g ++ be 8 n ++ [(d.length : Int)] ++ d
def body (g n : Int) (d : List Int) : List Int := pre g n d ++ List.replicate (251 - (17 + d.length)) 0
theorem pre_len (g n : Int) (d : List Int) : (pre g n d).length = 17 + d.length := by
  unfold pre
  simp only [List.length_append, be_length, List.length_singleton]
theorem body_len (g n : Int) (d : List Int) (h : d.length ≤ 234) : (body g n d).length = 251 := by
  unfold body
  rw [List.length_append, pre_len, List.length_replicate]
  omega
theorem body_bytes (g n : Int) (d : List Int) (hd : Bytes d) (h : d.length ≤ 234) : Bytes (body g n d) := by
  unfold body pre
  refine (((be_bytes 8 g).append (be_bytes 8 n)).append (fun x hx => ?_) |>.append hd).append (fun x hx => ?_)
  · simp at hx
    omega
  · have := List.eq_of_mem_replicate hx
    omega
theorem le4_bytes (s : Int) : Bytes (le4 s) := by
  unfold le4
  intro x hx
  simp at hx
  omega
theorem Concat3 (a b c : List Int) (ha : a.length ≤ 1000000) (hb : b.length ≤ 1000000) (hc : c.length ≤ 1000000) : Ev (fun k => slices_Concat_byte_byte.f k [a, b, c]) (a ++ b ++ c) := by
  unfold slices_Concat_byte_byte.f
  have r0 : rd_L1 [a, b, c] 0 = a := rfl
  have r1 : rd_L1 [a, b, c] 1 = b := rfl
  have r2 : rd_L1 [a, b, c] 2 = c := rfl
  have n3 : (([a, b, c] : List (List Int)).length : Int) = 3 := rfl
  have e1 : wrap64 (0 + (a.length : Int)) = (a.length : Int) := by rw [w64 (by omega) (by omega)]; omega
  have e2 : wrap64 ((a.length : Int) + (b.length : Int)) = (a.length : Int) + (b.length : Int) := w64 (by omega) (by omega)
  have e2c : wrap64 ((a.length : Int) + (b.length : Int) + (c.length : Int)) = (a.length : Int) + (b.length : Int) + (c.length : Int) := w64 (by omega) (by omega)
  have e3 : wrap64 (0 + 1) = 1 := by rw [w64 (by omega) (by omega)]; omega
  have e4 : wrap64 (1 + 1) = 2 := by rw [w64 (by omega) (by omega)]; omega
  have e5 : wrap64 (2 + 1) = 3 := by rw [w64 (by omega) (by omega)]; omega
  rw [n3]
  apply ev_succ
  simp only [slices_Concat_byte_byte.l0, n3, r0, e1, e3, if_pos (show (0 : Int) < 3 by decide), if_pos (show (0 : Int) ≤ 0 by decide), if_neg (show ¬ (a.length : Int) < 0 by omega)]
  apply ev_succ
  simp only [slices_Concat_byte_byte.l0, n3, r1, e2, e4, if_pos (show (1 : Int) < 3 by decide), if_pos (show (0 : Int) ≤ 1 by decide), if_neg (show ¬ (a.length : Int) + (b.length : Int) < 0 by omega)]
  apply ev_succ
  simp only [slices_Concat_byte_byte.l0, n3, r2, e2c, e5, if_pos (show (2 : Int) < 3 by decide), if_pos (show (0 : Int) ≤ 2 by decide), if_neg (show ¬ (a.length : Int) + (b.length : Int) + (c.length : Int) < 0 by omega)]
  apply ev_succ
  simp only [slices_Concat_byte_byte.l0, n3, if_neg (show ¬ (3 : Int) < 3 by decide), slices_Grow_byte_byte.f, if_pos (show 0 ≤ (a.length : Int) + (b.length : Int) + (c.length : Int) ∧ (a.length : Int) + (b.length : Int) + (c.length : Int) ≤ 140737488355327 by omega), Option.bind_some]
  apply ev_succ
  simp only [slices_Concat_byte_byte.l1, n3, r0, e3, if_pos (show (0 : Int) < 3 by decide), if_pos (show (0 : Int) ≤ 0 by decide), List.nil_append, if_pos (show ([] : List Int).length + a.length < 140737488355328 by simp; omega)]
  apply ev_succ
  simp only [slices_Concat_byte_byte.l1, n3, r1, e4, if_pos (show (1 : Int) < 3 by decide), if_pos (show (0 : Int) ≤ 1 by decide), if_pos (show a.length + b.length < 140737488355328 by omega)]
  apply ev_succ
  simp only [slices_Concat_byte_byte.l1, n3, r2, e5, if_pos (show (2 : Int) < 3 by decide), if_pos (show (0 : Int) ≤ 2 by decide), if_pos (show (a ++ b).length + c.length < 140737488355328 by rw [List.length_append]; omega)]
  apply ev_succ
  simp only [slices_Concat_byte_byte.l1, n3, if_neg (show ¬ (3 : Int) < 3 by decide)]
  exact ev_some _
def okR (g n : Int) : Prop := 0 ≤ g ∧ g < 72057594037927936 ∧ 0 ≤ n ∧ n < 72057594037927936
instance (g n : Int) : Decidable (okR g n) := by unfold okR; infer_instance
def mkS (g n : Int) (d : List Int) : List Int × Int := if okR g n then (if d.length > 234 then ([], 22) else (body g n d ++ le4 (sumS 0 (body g n d)) ++ [0], 0)) else ([], 1)
theorem Make_ev2 (g n : Int) (d : List Int) (hd : Bytes d) : Ev (fun k => record_Make.f k g n d) (mkS g n d) := by
  have jt : ¬ okR g n → Ev (fun k => record_Make.j0 k true g n d) (mkS g n d) := fun h => by
    apply ev_succ
    simp only [record_Make.j0, if_true]
    unfold mkS
    rw [if_neg h]
    exact ev_some _
  have jf : okR g n → Ev (fun k => record_Make.j0 k false g n d) (mkS g n d) := fun h => by
    unfold mkS
    rw [if_pos h]
    unfold okR at h
    apply ev_succ
    by_cases c : d.length > 234
    · simp only [record_Make.j0, Bool.false_eq_true, if_false, if_pos c, if_pos (show (d.length : Int) > 234 by omega)]
      exact ev_some _
    · have p8 : ∀ x : Int, putSpec x 8 = (be 8 x, 0) := fun x => by
        unfold putSpec
        rw [if_neg (by omega), if_neg (by omega)]
        rfl
      have hg := Put_ev g 8 (by omega) (by omega)
      have hn := Put_ev n 8 (by omega) (by omega)
      rw [p8] at hg hn
      simp only [record_Make.j0, Bool.false_eq_true, if_false, if_neg c, if_neg (show ¬ (d.length : Int) > 234 by omega), u64 (x := g) (by omega) (by omega), u64 (x := n) (by omega) (by omega), show (d.length : Int) % 256 = (d.length : Int) from by omega]
      refine ev_bind hg (ev_bind hn (ev_bind (Concat3 (be 8 g) (be 8 n) [(d.length : Int)] (by rw [be_length]; omega) (by rw [be_length]; omega) (by simp)) ?_))
      have hl1 : (be 8 g ++ be 8 n ++ [(d.length : Int)]).length = 17 := by simp only [List.length_append, be_length, List.length_singleton]
      have hpre : be 8 g ++ be 8 n ++ [(d.length : Int)] ++ d = pre g n d := rfl
      have hw : wrap64 (251 - ((17 + d.length : Nat) : Int)) = ((251 - (17 + d.length) : Nat) : Int) := by rw [w64 (by omega) (by omega)]; omega
      simp only [hl1, if_pos (show 17 + d.length < 140737488355328 by omega), Option.bind_some, hpre, hw, if_pos (show (0 : Int) ≤ ((251 - (17 + d.length) : Nat) : Int) by omega), Int.toNat_natCast, pre_len, if_pos (show 17 + d.length + (251 - (17 + d.length)) < 140737488355328 by omega)]
      have hbd : pre g n d ++ List.replicate (251 - (17 + d.length)) 0 = body g n d := rfl
      rw [hbd]
      refine ev_bind (sums_ev (body g n d) (body_bytes g n d hd (by omega)) (by rw [body_len g n d (by omega)]; omega)) ?_
      have hl4 : (le4 (sumS 0 (body g n d))).length = 4 := rfl
      simp only [body_len g n d (by omega), hl4, if_pos (show 251 + 4 < 140737488355328 by omega), Option.bind_some, List.length_append]
      exact ev_some _
  unfold record_Make.f
  by_cases c1 : g < 0
  · simp only [if_pos c1]
    exact jt (by unfold okR; omega)
  · by_cases c2 : g ≥ 72057594037927936
    · simp only [if_neg c1, if_pos c2]
      exact jt (by unfold okR; omega)
    · by_cases c3 : n < 0
      · simp only [if_neg c1, if_neg c2, if_pos c3]
        exact jt (by unfold okR; omega)
      · simp only [if_neg c1, if_neg c2, if_neg c3]
        by_cases c4 : n ≥ 72057594037927936
        · rw [decide_eq_true c4]
          exact jt (by unfold okR; omega)
        · rw [decide_eq_false c4]
          exact jf (by unfold okR; omega)
theorem Make_ev (g n : Int) (d : List Int) (hd : Bytes d) (_hl : d.length ≤ 300) : Ev (fun k => record_Make.f k g n d) (mkS g n d) := Make_ev2 g n d hd
/-! #### Equal, Marked, Read -/
theorem Eq_l0 (a b : List Int) (h : a.length = b.length) (hl : a.length ≤ 1000000) : ∀ (d i : Nat), a.length - i = d → i ≤ a.length → Ev (fun k => slices_Equal_byte_byte.l0 k a b (a.length : Int) (i : Int)) (decide (a.drop i = b.drop i)) := by
  intro d
  induction d with
  | zero =>
    intro i hd hi
    obtain rfl : i = a.length := by omega
    apply ev_succ
    simp only [slices_Equal_byte_byte.l0, if_neg (show ¬ ((a.length : Int) < (a.length : Int)) by omega)]
    exact ev_eq (ev_some _) (by simp [h])
  | succ d ih =>
    intro i hd hi
    have hlt : i < a.length := by omega
    have hltb : i < b.length := by omega
    have hw : wrap64 ((i : Int) + 1) = ((i + 1 : Nat) : Int) := by rw [w64 (by omega) (by omega)]; omega
    apply ev_succ
    simp only [slices_Equal_byte_byte.l0, if_pos (show (i : Int) < (a.length : Int) by omega), if_pos (show (0 : Int) ≤ (i : Int) by omega), if_pos (show (i : Int) < (b.length : Int) by omega), rd_lt hlt, rd_lt hltb, hw]
    have key : (a.drop i = b.drop i) ↔ (a[i] = b[i] ∧ a.drop (i + 1) = b.drop (i + 1)) := by
      rw [List.drop_eq_getElem_cons hlt, List.drop_eq_getElem_cons hltb]
      exact List.cons_eq_cons
    by_cases e : a[i] = b[i]
    · simp only [if_pos e]
      refine ev_eq (ih (i + 1) (by omega) (by omega)) ?_
      simp only [key, e, true_and]
    · simp only [if_neg e]
      refine ev_eq (ev_some _) ?_
      simp only [key, e, false_and, decide_false]
theorem Eq_ev (a b : List Int) (hl : a.length ≤ 1000000) : Ev (fun k => slices_Equal_byte_byte.f k a b) (decide (a = b)) := by
  unfold slices_Equal_byte_byte.f
  by_cases h : a.length = b.length
  · simp only [if_pos (show (a.length : Int) = (b.length : Int) by omega)]
    exact ev_eq (Eq_l0 a b h hl a.length 0 (by omega) (by omega)) (by simp)
  · simp only [if_neg (show ¬ ((a.length : Int) = (b.length : Int)) by omega)]
    exact ev_eq (ev_some _) (by simp; intro e; exact h (by rw [e]))
theorem Marked_f (b : List Int) (x : Int) (is : Bool) (hl : b.length ≤ 1000000) : record_Marked.f (b ++ [x]) is = some (b ++ [if is = true then 1 else 0]) := by
  have h1 : (b ++ [x]).length = b.length + 1 := by simp
  have hw : wrap64 ((((b ++ [x]).length : Nat) : Int) - 1) = (b.length : Int) := by rw [h1, w64 (by omega) (by omega)]; omega
  unfold record_Marked.f slices_Clone_byte_byte.f
  rw [if_pos (show (b ++ [x]).length < 140737488355328 by omega)]
  simp only [Option.bind_some, hw, if_pos (show ((b ++ [x]).length : Int) > 0 by omega), if_pos (show (0 : Int) ≤ (b.length : Int) by omega), if_pos (show (b.length : Int) < ((b ++ [x]).length : Int) by omega), Int.toNat_natCast]
  cases is <;> simp
/-- What a block of 256 bytes reads as. -/
def rdS (b : List Int) : Int × Int × List Int × Int :=
  if rd b 255 = 0 then (0, 0, [], 3) else if rd b 255 > 1 then (0, 0, [], 6) else if le4 (sumS 0 (b.take 251)) = (b.take 255).drop 251 then
    (if num (b.take 8) ≥ 72057594037927936 then (0, 0, [], 6) else if num ((b.take 16).drop 8) ≥ 72057594037927936 then (0, 0, [], 6) else if rd b 16 > 234 then (0, 0, [], 6) else if ((b.take 251).drop (17 + (rd b 16).toNat)).any (fun c => c != 0) = true then (0, 0, [], 6)
      else (num (b.take 8), num ((b.take 16).drop 8), (b.take (17 + (rd b 16).toNat)).drop 17, 0))
  else (0, 0, [], 21)
theorem num_range (xs : List Int) (hx : Bytes xs) : 0 ≤ num xs ∧ num xs ≤ 18446744073709551615 := by
  have : ∀ (l : List Int) (a : Int), Bytes l → 0 ≤ a → a ≤ 18446744073709551615 → 0 ≤ l.foldl stepN a ∧ l.foldl stepN a ≤ 18446744073709551615 := by
    intro l
    induction l with
    | nil => intro a _ h0 h1; exact ⟨h0, h1⟩
    | cons x l ih =>
      intro a hl h0 h1
      have := stepN_range h0 (hl x (by simp))
      exact ih _ (fun y hy => hl y (by simp [hy])) this.1 this.2
  exact this xs 0 hx (by omega) (by omega)
theorem Read_ev (b : List Int) (hb : Bytes b) (hl : b.length = 256) : Ev (fun k => record_Read.f k b) (rdS b) := by
  have hli : (b.length : Int) = 256 := by omega
  have h16 := Bytes.rd hb (i := 16) (by omega) (by omega)
  have h255 := Bytes.rd hb (i := 255) (by omega) (by omega)
  have g1 := Get_ev (b.take 8) (hb.take 8) (by rw [List.length_take]; omega)
  have g2 := Get_ev ((b.take 16).drop 8) ((hb.take 16).drop 8) (by rw [List.length_drop, List.length_take]; omega)
  unfold getSpec at g1 g2
  rw [if_neg (by rw [List.length_take]; omega)] at g1
  rw [if_neg (by rw [List.length_drop, List.length_take]; omega)] at g2
  have r1 := num_range (b.take 8) (hb.take 8)
  have r2 := num_range ((b.take 16).drop 8) ((hb.take 16).drop 8)
  have hs := sums_ev (b.take 251) (hb.take 251) (by rw [List.length_take]; omega)
  have he := Eq_ev (le4 (sumS 0 (b.take 251))) ((b.take 255).drop 251) (by show 4 ≤ _; omega)
  unfold record_Read.f rdS
  simp only [hli, if_true, if_pos (show (255 : Int) < 256 by decide)]
  by_cases c1 : rd b 255 = 0
  · simp only [if_pos c1]
    exact ev_some _
  · by_cases c2 : rd b 255 > 1
    · simp only [if_neg c1, if_pos c2]
      exact ev_some _
    · simp only [if_neg c1, if_neg c2, if_pos (show (251 : Int) ≤ 256 by decide)]
      refine ev_bind hs ?_
      simp only [if_pos (show (251 : Int) ≤ 255 by decide), if_pos (show (255 : Int) ≤ 256 by decide)]
      refine ev_bind he ?_
      by_cases c3 : le4 (sumS 0 (b.take 251)) = (b.take 255).drop 251
      · simp only [decide_eq_true c3, if_true, if_pos c3, if_pos (show (8 : Int) ≤ 256 by decide)]
        refine ev_bind g1 ?_
        simp only [if_pos (show (8 : Int) ≤ 16 by decide), if_pos (show (16 : Int) ≤ 256 by decide)]
        refine ev_bind g2 ?_
        simp only [if_pos (show (16 : Int) < 256 by decide)]
        by_cases c4 : num (b.take 8) ≥ 72057594037927936
        · simp only [if_pos c4]
          exact ev_some _
        · by_cases c5 : num ((b.take 16).drop 8) ≥ 72057594037927936
          · simp only [if_neg c4, if_pos c5]
            exact ev_some _
          · simp only [if_neg c4, if_neg c5, w64 (x := rd b 16) (by omega) (by omega)]
            by_cases c6 : rd b 16 > 234
            · simp only [if_pos c6]
              exact ev_some _
            · simp only [if_neg c6, w64 (x := 17 + rd b 16) (by omega) (by omega), if_pos (show 0 ≤ 17 + rd b 16 by omega), if_pos (show 17 + rd b 16 ≤ 251 by omega), slices_ContainsFunc_byte_byte.f, Option.bind_some, show (17 + rd b 16).toNat = 17 + (rd b 16).toNat from by omega]
              by_cases c7 : ((b.take 251).drop (17 + (rd b 16).toNat)).any (fun c => c != 0) = true
              · simp only [if_pos c7]
                exact ev_some _
              · simp only [if_neg c7, if_pos (show 17 ≤ 17 + rd b 16 by omega), if_pos (show 17 + rd b 16 ≤ 256 by omega), slices_Clone_byte_byte.f, if_pos (show ((b.take (17 + (rd b 16).toNat)).drop 17).length < 140737488355328 by rw [List.length_drop, List.length_take]; omega), Option.bind_some, w64 (x := num (b.take 8)) (by omega) (by omega), w64 (x := num ((b.take 16).drop 8)) (by omega) (by omega)]
                exact ev_some _
      · simp only [decide_eq_false c3, Bool.false_eq_true, if_false, if_neg c3]
        exact ev_some _
/-- A marked block that was made reads as its record; without its mark as none. -/
theorem read_made (g n : Int) (d : List Int) (h : okR g n) (hd : Bytes d) (hl : d.length ≤ 234) : rdS (body g n d ++ le4 (sumS 0 (body g n d)) ++ [1]) = (g, n, d, 0) := by
  have hbl := body_len g n d hl
  have hsl : (le4 (sumS 0 (body g n d))).length = 4 := rfl
  have h255 : rd (body g n d ++ le4 (sumS 0 (body g n d)) ++ [1]) 255 = 1 := by
    have := rd_lt (xs := body g n d ++ le4 (sumS 0 (body g n d)) ++ [1]) (i := 255) (by simp only [List.length_append, hbl, hsl, List.length_singleton]; omega)
    rw [show ((255 : Nat) : Int) = 255 from rfl] at this
    rw [this, List.getElem_append_right (by simp only [List.length_append, hbl, hsl]; omega)]
    simp [hbl, hsl]
  have t251 : (body g n d ++ le4 (sumS 0 (body g n d)) ++ [1]).take 251 = body g n d := by
    rw [List.append_assoc, List.take_append_of_le_length (by omega), List.take_of_length_le (by omega)]
  have t255 : ((body g n d ++ le4 (sumS 0 (body g n d)) ++ [1]).take 255).drop 251 = le4 (sumS 0 (body g n d)) := by
    rw [List.take_append_of_le_length (by rw [List.length_append]; omega), List.take_of_length_le (by rw [List.length_append]; omega), List.drop_append_of_le_length (by omega), List.drop_of_length_le (by omega), List.nil_append]
  have hb8 : (be 8 g).length = 8 := be_length 8 g
  have hb8n : (be 8 n).length = 8 := be_length 8 n
  have hall : body g n d ++ le4 (sumS 0 (body g n d)) ++ [1] = be 8 g ++ (be 8 n ++ ((d.length : Int) :: (d ++ (List.replicate (251 - (17 + d.length)) 0 ++ (le4 (sumS 0 (body g n d)) ++ [1]))))) := by
    unfold body pre
    simp only [List.append_assoc, List.singleton_append, List.cons_append, List.nil_append]
  have t8 : (body g n d ++ le4 (sumS 0 (body g n d)) ++ [1]).take 8 = be 8 g := by
    rw [hall, List.take_append_of_le_length (by omega), List.take_of_length_le (by omega)]
  have t16 : ((body g n d ++ le4 (sumS 0 (body g n d)) ++ [1]).take 16).drop 8 = be 8 n := by
    rw [hall, ← List.append_assoc, List.take_append_of_le_length (by rw [List.length_append]; omega), List.take_of_length_le (by rw [List.length_append]; omega), List.drop_append_of_le_length (by omega), List.drop_of_length_le (by omega), List.nil_append]
  have h16 : rd (body g n d ++ le4 (sumS 0 (body g n d)) ++ [1]) 16 = (d.length : Int) := by
    rw [hall]
    have := rd_lt (xs := be 8 g ++ (be 8 n ++ ((d.length : Int) :: (d ++ (List.replicate (251 - (17 + d.length)) 0 ++ (le4 (sumS 0 (body g n d)) ++ [1])))))) (i := 16) (by simp only [List.length_append, List.length_cons, hb8, hb8n]; omega)
    rw [show ((16 : Nat) : Int) = 16 from rfl] at this
    rw [this, List.getElem_append_right (by omega), List.getElem_append_right (by omega)]
    simp [hb8, hb8n]
  have n1 : num (be 8 g) = g := num_be (by omega) h.1 (by unfold okR at h; omega)
  have n2 : num (be 8 n) = n := num_be (by omega) h.2.2.1 (by unfold okR at h; omega)
  have hz : (body g n d).drop (17 + d.length) = List.replicate (251 - (17 + d.length)) 0 := by
    unfold body
    rw [List.drop_append_of_le_length (by rw [pre_len]; omega), List.drop_of_length_le (by rw [pre_len]; omega), List.nil_append]
  have hdt : ((body g n d ++ le4 (sumS 0 (body g n d)) ++ [1]).take (17 + d.length)).drop 17 = d := by
    have e : body g n d ++ le4 (sumS 0 (body g n d)) ++ [1] = (be 8 g ++ be 8 n ++ [(d.length : Int)]) ++ (d ++ (List.replicate (251 - (17 + d.length)) 0 ++ (le4 (sumS 0 (body g n d)) ++ [1]))) := by
      unfold body pre
      simp only [List.append_assoc, List.singleton_append, List.cons_append, List.nil_append]
    have hl17 : (be 8 g ++ be 8 n ++ [(d.length : Int)]).length = 17 := by simp only [List.length_append, be_length, List.length_singleton]
    rw [e, List.take_append, List.take_of_length_le (by omega), List.drop_append_of_le_length (by omega), List.drop_of_length_le (by omega), List.nil_append, hl17, show 17 + d.length - 17 = d.length by omega, List.take_append_of_le_length (Nat.le_refl _), List.take_of_length_le (Nat.le_refl _)]
  have hany : (List.replicate (251 - (17 + d.length)) (0 : Int)).any (fun c => c != 0) = false := by
    rw [List.any_eq_false]
    intro x hx
    have := List.eq_of_mem_replicate hx
    subst this
    decide
  unfold okR at h
  unfold rdS
  rw [h255, t251, t255, t8, t16, h16, n1, n2, Int.toNat_natCast, hz, hany, hdt, if_neg (by decide), if_neg (by decide), if_pos rfl, if_neg (by omega), if_neg (by omega), if_neg (by omega), if_neg (by decide)]
theorem read_bare (l : List Int) (hl : l.length = 255) : rdS (l ++ [0]) = (0, 0, [], 3) := by
  have h255 : rd (l ++ [0]) 255 = 0 := by
    have := rd_lt (xs := l ++ [0]) (i := 255) (by simp; omega)
    rw [show ((255 : Nat) : Int) = 255 from rfl] at this
    rw [this, List.getElem_append_right (by omega)]
    simp
  unfold rdS
  rw [if_pos h255]
theorem made_len (g n : Int) (d : List Int) (hl : d.length ≤ 234) : (body g n d ++ le4 (sumS 0 (body g n d))).length = 255 := by
  rw [List.length_append, body_len g n d hl]
  rfl
theorem made_bytes (g n : Int) (d : List Int) (hd : Bytes d) (hl : d.length ≤ 234) : Bytes (body g n d ++ le4 (sumS 0 (body g n d))) := (body_bytes g n d hd hl).append (le4_bytes _)
theorem bytes_one (x : Int) (h : 0 ≤ x ∧ x ≤ 255) : Bytes [x] := fun y hy => by
  simp at hy
  omega
set_option maxRecDepth 100000 in
theorem awake22 : Ev (fun k => batonlaw22_awake.f k) true := by
  have hd : Bytes [3] := bytes_one 3 (by omega)
  have ho : okR 1 2 := by decide
  have hm := Make_ev 1 2 [3] hd (by simp)
  unfold mkS at hm
  rw [if_pos ho, if_neg (by simp)] at hm
  have hl := made_len 1 2 [3] (by simp)
  have hb := made_bytes 1 2 [3] hd (by simp)
  have hr := Read_ev (body 1 2 [3] ++ le4 (sumS 0 (body 1 2 [3])) ++ [1]) (hb.append (bytes_one 1 (by omega))) (by rw [List.length_append, hl]; rfl)
  rw [read_made 1 2 [3] ho hd (by simp)] at hr
  have hr2 : Ev (fun k => record_Read.f k (List.replicate 256 0)) (0, 0, [], 3) := by
    have hq := Read_ev (List.replicate 256 0) (fun x hx => by have := List.eq_of_mem_replicate hx; omega) List.length_replicate
    have hz := read_bare (List.replicate 255 0) List.length_replicate
    rw [← List.replicate_succ'] at hz
    exact ev_eq hq hz
  unfold batonlaw22_awake.f
  refine ev_bind hm ?_
  simp only [Marked_f _ 0 true (show _ ≤ _ by rw [hl]; omega), Option.bind_some, if_true]
  refine ev_bind hr ?_
  simp only [if_pos (show (256 : Nat) ≤ 281474976710656 by decide)]
  refine ev_bind hr2 ?_
  simp only [if_true, List.length_singleton, if_pos (show ((1 : Nat) : Int) = 1 from rfl)]
  exact ev_some _

theorem eight_l0 (x : Int) (h0 : 0 ≤ x) (h1 : x < 72057594037927936) : ∀ (d i : Nat), 8 - i = d → i ≤ 8 → Ev (fun k => batonref22_eight.l0 k (x / 256 ^ i) (be i x) (i : Int)) (be 8 x) := by
  intro d
  induction d with
  | zero =>
    intro i hd hi
    obtain rfl : i = 8 := by omega
    apply ev_succ
    simp only [batonref22_eight.l0, if_neg (show ¬ ((8 : Nat) : Int) < 8 by omega)]
    exact ev_some _
  | succ d ih =>
    intro i hd hi
    have hw : wrap64 ((i : Int) + 1) = ((i + 1 : Nat) : Int) := by rw [w64 (by omega) (by omega)]; omega
    have hq0 : 0 ≤ x / 256 ^ i := Int.ediv_nonneg h0 (Int.le_of_lt (Int.pow_pos (by decide)))
    have hq1 : x / 256 ^ i ≤ x := Int.ediv_le_self _ h0
    have hdd : x / 256 ^ i / 256 = x / 256 ^ (i + 1) := by rw [Int.ediv_ediv_of_nonneg (Int.le_of_lt (Int.pow_pos (by decide))), Int.pow_succ]
    have hl := be_length i x
    apply ev_succ
    simp only [batonref22_eight.l0, if_pos (show (i : Int) < 8 by omega), Option.bind_some, List.length_singleton, hl, if_pos (show 1 + i < 140737488355328 by omega), hw]
    rw [Int.tdiv_eq_ediv_of_nonneg hq0, Int.tmod_eq_emod_of_nonneg hq0, w64 (x := x / 256 ^ i / 256) (by omega) (by omega), hdd, show x / 256 ^ i % 256 % 256 = x / 256 ^ i % 256 by omega]
    have := ih (i + 1) (by omega) (by omega)
    have e : be (i + 1) x = [x / 256 ^ i % 256] ++ be i x := by
      show (x / 2 ^ (8 * i) % 256) :: be i x = _
      rw [show (2 : Int) ^ (8 * i) = 256 ^ i by rw [Int.pow_mul]; rfl]
      rfl
    rw [e] at this
    exact this
theorem eight_ev (x : Int) (h0 : 0 ≤ x) (h1 : x < 72057594037927936) : Ev (fun k => batonref22_eight.f k x) (be 8 x) := by
  have := eight_l0 x h0 h1 8 0 (by omega) (by omega)
  rw [Int.pow_zero, Int.ediv_one] at this
  exact this
theorem rSum_ev (l : List Int) (hb : Bytes l) (hl : l.length ≤ 9000000000000000000) : Ev (fun k => batonref22_Sum.f k l) (le4 (sumS 0 l)) := by
  have hr := sumS_range 0 l (by omega) (by omega) hb
  unfold batonref22_Sum.f
  refine ev_bind (refMore_ev 0 l (by omega) (by omega) hb hl) ?_
  generalize sumS 0 l = s at hr
  rw [Int.tdiv_eq_ediv_of_nonneg hr.1, Int.tdiv_eq_ediv_of_nonneg hr.1, Int.tdiv_eq_ediv_of_nonneg hr.1, Int.tmod_eq_emod_of_nonneg hr.1]
  refine ev_eq (ev_some _) ?_
  unfold le4
  simp only [List.cons.injEq, and_true]
  omega
theorem RMake_l0 (g n : Int) (d : List Int) (hd : Bytes d) (hl : d.length ≤ 234) : ∀ (m : Nat) (z : Nat), 251 - (17 + d.length) - z = m → z ≤ 251 - (17 + d.length) → Ev (fun k => batonref22_Make.l0 k (pre g n d ++ List.replicate z 0)) (body g n d ++ le4 (sumS 0 (body g n d)) ++ [0]) := by
  intro m
  induction m with
  | zero =>
    intro z hz hz2
    obtain rfl : z = 251 - (17 + d.length) := by omega
    have hb : pre g n d ++ List.replicate (251 - (17 + d.length)) 0 = body g n d := rfl
    have hbl := body_len g n d hl
    have hsl : (le4 (sumS 0 (body g n d))).length = 4 := rfl
    rw [hb]
    apply ev_succ
    simp only [batonref22_Make.e1, hbl, if_neg (show ¬ ((251 : Nat) : Int) < 251 by omega)]
    refine ev_bind (rSum_ev (body g n d) (body_bytes g n d hd hl) (by omega)) ?_
    simp only [hsl, if_pos (show 251 + 4 < 140737488355328 by omega), Option.bind_some, List.length_append, hbl, List.length_singleton, if_pos (show 251 + 4 + 1 < 140737488355328 by omega)]
    exact ev_some _
  | succ m ih =>
    intro z hz hz2
    have hlz : (pre g n d ++ List.replicate z 0).length = 17 + d.length + z := by rw [List.length_append, pre_len, List.length_replicate]
    have h := ih (z + 1) (by omega) (by omega)
    rw [List.replicate_succ', ← List.append_assoc] at h
    apply ev_succ
    simp only [batonref22_Make.e1, hlz, if_pos (show ((17 + d.length + z : Nat) : Int) < 251 by omega), Option.bind_some, List.length_singleton, if_pos (show 17 + d.length + z + 1 < 140737488355328 by omega)]
    exact h
theorem RMake_ev (g n : Int) (d : List Int) (h : okR g n) (hd : Bytes d) (hl : d.length ≤ 234) : Ev (fun k => batonref22_Make.f k g n d) (body g n d ++ le4 (sumS 0 (body g n d)) ++ [0]) := by
  unfold okR at h
  unfold batonref22_Make.f
  refine ev_bind (eight_ev g (by omega) (by omega)) (ev_bind (eight_ev n (by omega) (by omega)) ?_)
  have h1 : (be 8 g ++ be 8 n).length = 16 := by rw [List.length_append, be_length, be_length]
  have h2 : (be 8 g ++ be 8 n ++ [(d.length : Int)]).length = 17 := by rw [List.length_append, h1]; rfl
  simp only [be_length, if_pos (show 8 + 8 < 140737488355328 by omega), Option.bind_some, h1, List.length_singleton, if_pos (show 16 + 1 < 140737488355328 by omega), show (d.length : Int) % 256 = (d.length : Int) from by omega, h2, if_pos (show 17 + d.length < 140737488355328 by omega)]
  have := RMake_l0 g n d hd hl (251 - (17 + d.length)) 0 (by omega) (by omega)
  rw [List.replicate_zero, List.append_nil] at this
  exact this

end Go.Proofs.Ytaiiegbhbadciaa.LF22R
