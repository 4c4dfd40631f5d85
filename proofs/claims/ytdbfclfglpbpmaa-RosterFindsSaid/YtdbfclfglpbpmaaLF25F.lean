/- Plain lemmas on the functions of this family (RosterFinds): what each loop comes to. No condition. -/
import Derived.Test.YtdbfclfglpbpmaaBase
import Derived.Test.YtdbfclfglpbpmaaPF25Fx
namespace Go.Proofs.Ytdbfclfglpbpmaa.LF25F
open Go.RowKit Go.Proofs.Ytdbfclfglpbpmaa.Base Go.Proofs.YtdbfclfglpbpmaaW.PrintWords Go.Proofs.YtdbfclfglpbpmaaW.PrintMore Go.Proofs.Ytdbfclfglpbpmaa.PF25F
set_option linter.unusedVariables false
set_option linter.unusedSimpArgs false

/-! ### batonref01 -/

/-! ### numbers out of bytes -/
def stepN (n b : Int) : Int := n * 256 % 18446744073709551616 + b
def num (xs : List Int) : Int := xs.foldl stepN 0
theorem stepN_range {n b : Int} (hn : 0 ≤ n) (hb : 0 ≤ b ∧ b ≤ 255) : 0 ≤ stepN n b ∧ stepN n b ≤ 18446744073709551615 := by unfold stepN; omega

/-! ### numbers of bytes -/
theorem refGet_l0 (xs : List Int) (hx : Bytes xs) (hl : xs.length ≤ 9000000000000000000) : ∀ (d i : Nat) (acc : Int), xs.length - i = d → i ≤ xs.length → 0 ≤ acc → acc ≤ 18446744073709551615 → Ev (fun k => batonref01_Get.l0 k xs acc (i : Int)) ((xs.drop i).foldl stepN acc) := by
  intro d
  induction d with
  | zero =>
    intro i acc hd hi h0 h1
    obtain rfl : i = xs.length := by omega
    apply ev_succ
    simp only [batonref01_Get.l0, if_neg (show ¬ ((xs.length : Int) < (xs.length : Int)) by omega)]
    exact ev_eq (ev_some _) (by simp)
  | succ d ih =>
    intro i acc hd hi h0 h1
    have hlt : i < xs.length := by omega
    have hw : wrap64 ((i : Int) + 1) = ((i + 1 : Nat) : Int) := by rw [w64 (by omega) (by omega)]; omega
    have hb := hx.rd (i := (i : Int)) (by omega) (by omega)
    rw [rd_lt hlt] at hb
    have hs := stepN_range h0 hb
    have e : IntKind.u64.wrap ((IntKind.u64.wrap (acc * 256)) + (IntKind.u64.wrap (rd xs (i : Int)))) = stepN acc xs[i] := by
      rw [rd_lt hlt, u64m (acc * 256), u64 hb.1 (by omega), u64m]
      unfold stepN at *
      omega
    apply ev_succ
    simp only [batonref01_Get.l0, if_pos (show (i : Int) < (xs.length : Int) by omega), if_pos (show (0 : Int) ≤ (i : Int) by omega), hw, e]
    refine ev_eq (ih (i + 1) _ (by omega) (by omega) hs.1 hs.2) ?_
    rw [List.drop_eq_getElem_cons hlt, List.foldl_cons]
theorem refGet_ev (xs : List Int) (hx : Bytes xs) (hl : xs.length ≤ 9000000000000000000) : Ev (fun k => batonref01_Get.f k xs) (num xs) := by
  unfold batonref01_Get.f
  exact refGet_l0 xs hx hl xs.length 0 0 (by omega) (by omega) (by omega) (by omega)

/-! ### word.Put, word.Get -/
/-- The lowest s bytes of n, the highest first. -/
def be : Nat → Int → List Int
  | 0, _ => []
  | s + 1, n => (n / 2 ^ (8 * s) % 256) :: be s n
theorem be_length (s : Nat) (n : Int) : (be s n).length = s := by induction s with
  | zero => rfl
  | succ s ih => simp [be, ih]
theorem be_bytes (s : Nat) (n : Int) : Bytes (be s n) := by
  induction s with
  | zero => intro x hx; cases hx
  | succ s ih =>
    intro x hx
    simp only [be, List.mem_cons] at hx
    rcases hx with rfl | hx
    · omega
    · exact ih x hx
theorem set_rep (m : Nat) (t : List Int) (v : Int) : (List.replicate (m + 1) 0 ++ t).set m v = List.replicate m 0 ++ v :: t := by
  induction m with
  | zero => rfl
  | succ m ih => rw [List.replicate_succ, List.cons_append, List.set_cons_succ, ih, List.replicate_succ, List.cons_append]
theorem Put_l0 (n : Int) (size : Nat) (hs : size ≤ 8) (h0 : 0 ≤ n) (h1 : n ≤ 18446744073709551615) : ∀ (d i : Nat), size - i = d → i ≤ size →
    Ev (fun k => word_Put.l0 k n (size : Int) (List.replicate (size - i) 0 ++ be i n) (size : Int) (i : Int)) (be size n, 0) := by
  intro d
  induction d with
  | zero =>
    intro i hd hi
    obtain rfl : i = size := by omega
    apply ev_succ
    simp only [word_Put.l0, if_neg (show ¬ ((i : Int) < (i : Int)) by omega)]
    exact ev_eq (ev_some _) (by simp)
  | succ d ih =>
    intro i hd hi
    have hlt : i < size := by omega
    have hw : wrap64 ((i : Int) + 1) = ((i + 1 : Nat) : Int) := by rw [w64 (by omega) (by omega)]; omega
    have hq : IntKind.u64.wrap (wrap64 (8 * (i : Int))) = ((8 * i : Nat) : Int) := by rw [w64 (by omega) (by omega), u64 (by omega) (by omega)]; omega
    have hp : wrap64 (wrap64 ((size : Int) - 1) - (i : Int)) = ((size - 1 - i : Nat) : Int) := by rw [w64 (x := (size : Int) - 1) (by omega) (by omega), w64 (by omega) (by omega)]; omega
    have hlen : (List.replicate (size - i) (0 : Int) ++ be i n).length = size := by rw [List.length_append, List.length_replicate, be_length]; omega
    have hsh : shr .u64 n ((8 * i : Nat) : Int) % 256 = n / 2 ^ (8 * i) % 256 := by
      unfold shr
      rw [Int.toNat_natCast, Nat.min_eq_left (by show 8 * i ≤ 64; omega)]
    apply ev_succ
    simp only [word_Put.l0, if_pos (show (i : Int) < (size : Int) by omega), hq, hp, if_pos (show (0 : Int) ≤ ((8 * i : Nat) : Int) by omega), if_pos (show (0 : Int) ≤ ((size - 1 - i : Nat) : Int) by omega), hlen, if_pos (show ((size - 1 - i : Nat) : Int) < (size : Int) by omega), hw, Int.toNat_natCast, hsh]
    have e : (List.replicate (size - i) (0 : Int) ++ be i n).set (size - 1 - i) (n / 2 ^ (8 * i) % 256) = List.replicate (size - (i + 1)) 0 ++ be (i + 1) n := by
      obtain ⟨m, hm⟩ : ∃ m, size - i = m + 1 := ⟨size - i - 1, by omega⟩
      rw [hm, show size - 1 - i = m by omega, set_rep, show size - (i + 1) = m by omega]
      rfl
    rw [e]
    exact ih (i + 1) (by omega) (by omega)
def putSpec (n size : Int) : List Int × Int := if size < 1 ∨ size > 8 then ([], 1) else if size < 8 ∧ n / 2 ^ (8 * size).toNat ≠ 0 then ([], 22) else (be size.toNat n, 0)
theorem Put_ev (n size : Int) (h0 : 0 ≤ n) (h1 : n ≤ 18446744073709551615) : Ev (fun k => word_Put.f k n size) (putSpec n size) := by
  unfold word_Put.f putSpec
  by_cases c1 : size < 1
  · simp only [if_pos c1, if_pos (show size < 1 ∨ size > 8 from .inl c1)]
    apply ev_succ
    simp only [word_Put.j0, if_true]
    exact ev_some _
  · simp only [if_neg c1]
    apply ev_succ
    by_cases c2 : size > 8
    · simp only [word_Put.j0, decide_eq_true c2, if_true, if_pos (show size < 1 ∨ size > 8 from .inr c2)]
      exact ev_some _
    · rw [if_neg (show ¬ (size < 1 ∨ size > 8) by omega)]
      simp only [word_Put.j0, decide_eq_false c2, if_false, Bool.false_eq_true]
      obtain ⟨s, rfl⟩ := Int.eq_ofNat_of_zero_le (show 0 ≤ size by omega)
      have last : Ev (fun k => word_Put.j1 k n (s : Int) false) (be s n, 0) := by
        apply ev_succ
        have hle : s ≤ 281474976710656 := by omega
        simp only [word_Put.j1, if_false, Bool.false_eq_true, if_pos (show (0 : Int) ≤ (s : Int) by omega), Int.toNat_natCast, if_pos hle, Option.bind_some, List.length_replicate]
        have := Put_l0 n s (by omega) h0 h1 s 0 (by omega) (by omega)
        simpa [be] using this
      by_cases c3 : (s : Int) < 8
      · have hq : IntKind.u64.wrap (wrap64 (8 * (s : Int))) = ((8 * s : Nat) : Int) := by rw [w64 (by omega) (by omega), u64 (by omega) (by omega)]; omega
        have hsh : shr .u64 n ((8 * s : Nat) : Int) = n / 2 ^ (8 * s) := by
          unfold shr
          rw [Int.toNat_natCast, Nat.min_eq_left (by show 8 * s ≤ 64; omega)]
        have ht : (8 * (s : Int)).toNat = 8 * s := by omega
        simp only [if_pos c3, hq, if_pos (show (0 : Int) ≤ ((8 * s : Nat) : Int) by omega), hsh, ht, Int.toNat_natCast]
        by_cases c4 : n / 2 ^ (8 * s) = 0
        · rw [if_neg (show ¬ ((s : Int) < 8 ∧ n / 2 ^ (8 * s) ≠ 0) from fun h => h.2 c4)]
          simp only [c4, bne_self_eq_false]
          exact last
        · rw [if_pos ⟨c3, c4⟩]
          have : (n / 2 ^ (8 * s) != 0) = true := by simpa using c4
          simp only [this]
          apply ev_succ
          simp only [word_Put.j1, if_true]
          exact ev_some _
      · simp only [if_neg c3, Int.toNat_natCast]
        rw [if_neg (show ¬ ((s : Int) < 8 ∧ _) from fun h => c3 h.1)]
        exact last
theorem pow8 (s : Nat) : (2 : Nat) ^ (8 * s) = 256 ^ s := by rw [Nat.pow_mul]
theorem num_be_aux (n : Nat) : ∀ (s a : Nat), (a + 1) * 256 ^ s ≤ 18446744073709551616 → (be s (n : Int)).foldl stepN (a : Int) = ((a * 256 ^ s + n % 256 ^ s : Nat) : Int) := by
  intro s
  induction s with
  | zero => intro a h; simp [be, Nat.mod_one]
  | succ s ih =>
    intro a h
    have h256 : 1 ≤ 256 ^ s := by have := Nat.two_pow_pos (8 * s); rw [pow8] at this; exact this
    have hpow : 256 ^ (s + 1) = 256 * 256 ^ s := by rw [Nat.pow_succ, Nat.mul_comm]
    rw [hpow] at h
    have ha : (a + 1) * 256 ≤ 18446744073709551616 := by
      have h2 : (a + 1) * 256 * 256 ^ s ≤ 18446744073709551616 := by rw [Nat.mul_assoc]; exact h
      exact Nat.le_trans (Nat.le_mul_of_pos_right _ h256) h2
    simp only [be, List.foldl_cons]
    have e : stepN (a : Int) ((n : Int) / 2 ^ (8 * s) % 256) = ((a * 256 + n / 256 ^ s % 256 : Nat) : Int) := by
      unfold stepN
      rw [show (2 : Int) ^ (8 * s) = ((256 ^ s : Nat) : Int) by rw [← pow8]; simp]
      rw [← Int.natCast_ediv]
      omega
    rw [e, ih]
    · have hm : n % (256 * 256 ^ s) = n % 256 ^ s + 256 ^ s * (n / 256 ^ s % 256) := by rw [Nat.mul_comm 256]; exact Nat.mod_mul
      rw [hpow, hm, Nat.add_mul, Nat.mul_assoc, Nat.mul_comm (n / 256 ^ s % 256)]
      omega
    · have : (a * 256 + n / 256 ^ s % 256 + 1) ≤ (a + 1) * 256 := by omega
      have h2 := Nat.mul_le_mul_right (256 ^ s) this
      rw [Nat.mul_assoc] at h2
      exact Nat.le_trans h2 h
theorem num_be {n : Int} {s : Nat} (hs : s ≤ 8) (h0 : 0 ≤ n) (hn : n < 2 ^ (8 * s)) : num (be s n) = n := by
  obtain ⟨m, rfl⟩ := Int.eq_ofNat_of_zero_le h0
  have hm : m < 256 ^ s := by
    have : (2 : Int) ^ (8 * s) = ((256 ^ s : Nat) : Int) := by rw [← pow8]; simp
    rw [this] at hn
    omega
  have h8 : 256 ^ s ≤ 18446744073709551616 := by
    have := Nat.pow_le_pow_right (show 0 < 256 by decide) hs
    simpa using this
  have := num_be_aux m s 0 (by simpa using h8)
  unfold num
  rw [show (0 : Int) = ((0 : Nat) : Int) from rfl, this, Nat.mod_eq_of_lt hm]
  simp

/-! ### turned words -/
theorem tmod32 (n : Int) : Int.tmod n 32 = if 0 ≤ n then n % 32 else -((-n) % 32) := by
  split
  · exact Int.tmod_eq_emod_of_nonneg (by omega)
  · have h : Int.tmod (-(-n)) 32 = -(Int.tmod (-n) 32) := Int.neg_tmod _ _
    rw [Int.neg_neg, Int.tmod_eq_emod_of_nonneg (a := -n) (by omega)] at h
    exact h
def rotS (x : Int) (s : Nat) : Int := if s = 0 then x else x / 2 ^ s + x % 2 ^ s * 2 ^ (32 - s)
theorem castpow (s : Nat) : ((2 ^ s : Nat) : Int) = (2 : Int) ^ s := by rw [Int.natCast_pow]; rfl
theorem pow2_pos (s : Nat) : (0 : Int) < 2 ^ s := by
  have := Nat.two_pow_pos s
  rw [← castpow]
  omega
theorem pow2_split {s : Nat} (h : s ≤ 32) : (2 : Int) ^ s * 2 ^ (32 - s) = 4294967296 := by
  have h1 : (2 : Nat) ^ s * 2 ^ (32 - s) = 4294967296 := by rw [← Nat.pow_add, show s + (32 - s) = 32 by omega]
  rw [← castpow, ← castpow, ← Int.natCast_mul, h1]
  rfl
theorem hi_eq {s : Nat} (h : s ≤ 32) (x : Int) : x * 2 ^ (32 - s) % 4294967296 = x % 2 ^ s * 2 ^ (32 - s) := by
  rw [← pow2_split h, Int.mul_comm x, Int.mul_comm (2 ^ s), Int.mul_emod_mul_of_pos _ _ (pow2_pos _), Int.mul_comm]
theorem lo_lt {s : Nat} (h : s ≤ 32) {x : Int} (h0 : 0 ≤ x) (h1 : x ≤ 4294967295) : x / 2 ^ s < 2 ^ (32 - s) := by
  refine Int.ediv_lt_of_lt_mul (pow2_pos s) ?_
  rw [Int.mul_comm, pow2_split h]
  omega
theorem hi_le {s : Nat} (h : s ≤ 32) (x : Int) : 0 ≤ x % 2 ^ s * 2 ^ (32 - s) ∧ x % 2 ^ s * 2 ^ (32 - s) ≤ 4294967295 := by
  rw [← hi_eq h]
  omega
theorem lo_ge {s : Nat} {x : Int} (h0 : 0 ≤ x) : 0 ≤ x / 2 ^ s := Int.ediv_nonneg h0 (by have := pow2_pos s; omega)
theorem Rot_eq (x n : Int) (h0 : 0 ≤ x) (h1 : x ≤ 4294967295) (hn0 : -9223372036854775808 ≤ n) (hn1 : n ≤ 9223372036854775807) : word_Rot.f x n = some (rotS x (n % 32).toNat) := by
  unfold word_Rot.f bits_RotateLeft32.f
  rw [and_i64_31]
  obtain ⟨s, hs⟩ := Int.eq_ofNat_of_zero_le (show 0 ≤ n % 32 by omega)
  have hs32 : s < 32 := by omega
  rw [hs, w64 (by omega) (by omega), and_u64_31 (by rw [u64m]; omega) (by rw [u64m]; omega), u64m, Int.toNat_natCast]
  obtain ⟨t, ht⟩ : ∃ t : Nat, (-(s : Int) % 18446744073709551616) % 32 = (t : Int) := Int.eq_ofNat_of_zero_le (by omega)
  have ht32 : t < 32 := by omega
  have htv : t = if s = 0 then 0 else 32 - s := by split <;> omega
  rw [ht, u64 (by omega) (by omega), if_pos (by omega), if_pos (by omega), show (32 : Int) - (t : Int) = ((32 - t : Nat) : Int) by omega]
  unfold shl shr
  rw [Int.toNat_natCast, Int.toNat_natCast, Nat.min_eq_left (by show t ≤ 32; omega), Nat.min_eq_left (by show 32 - t ≤ 32; omega), IntKind.wrap_u32]
  simp only [Option.bind_some, Option.some.injEq]
  unfold rotS
  by_cases e : s = 0
  · rw [if_pos e] at htv
    subst htv
    rw [if_pos e]
    have e1 : x * 2 ^ 0 % 4294967296 = x := by rw [Int.pow_zero]; omega
    have e2 : x / 2 ^ (32 - 0) = 0 := by simp only [Nat.sub_zero, Int.reducePow]; omega
    rw [e1, e2, or_u32_join 0 h0 h1 (by simp) (by omega) (by omega) (by omega)]
    omega
  · rw [if_neg e] at htv
    rw [if_neg e]
    have e32 : 32 - t = s := by omega
    have hq := hi_le (show s ≤ 32 by omega) x
    have hl := lo_lt (show s ≤ 32 by omega) h0 h1
    have hg := lo_ge (s := s) h0
    rw [e32, htv, hi_eq (by omega), or_u32_join (32 - s) hq.1 hq.2 (Int.mul_emod_left _ _) hg ?_ hl, Int.add_comm]
    have := pow2_split (show s ≤ 32 by omega)
    have := pow2_pos s
    have := Int.ediv_le_self (2 ^ s) h0
    omega
theorem rotS_range {x : Int} {s : Nat} (hs : s < 32) (h0 : 0 ≤ x) (h1 : x ≤ 4294967295) : 0 ≤ rotS x s ∧ rotS x s ≤ 4294967295 := by
  unfold rotS
  split
  · exact ⟨h0, h1⟩
  · have hq := hi_le (show s ≤ 32 by omega) x
    have hl := lo_lt (show s ≤ 32 by omega) h0 h1
    have hg := lo_ge (s := s) h0
    have hp := pow2_split (show s ≤ 32 by omega)
    have hm : x % 2 ^ s ≤ 2 ^ s - 1 := by have := Int.emod_lt_of_pos x (pow2_pos s); omega
    have hmul := Int.mul_le_mul_of_nonneg_right hm (show (0 : Int) ≤ 2 ^ (32 - s) by have := pow2_pos (32 - s); omega)
    rw [Int.sub_mul, hp, Int.one_mul] at hmul
    omega
theorem rotS_back {x : Int} {s : Nat} (hs : s < 32) (hs0 : s ≠ 0) (h0 : 0 ≤ x) (h1 : x ≤ 4294967295) : rotS (rotS x s) (32 - s) = x := by
  have hl := lo_lt (show s ≤ 32 by omega) h0 h1
  have hg := lo_ge (s := s) h0
  have hb := pow2_pos (32 - s)
  have e : rotS x s = x / 2 ^ s + x % 2 ^ s * 2 ^ (32 - s) := by unfold rotS; rw [if_neg hs0]
  rw [e]
  unfold rotS
  rw [if_neg (by omega), show 32 - (32 - s) = s by omega, Int.add_mul_ediv_right _ _ (by omega), Int.add_mul_emod_self_right, Int.ediv_eq_zero_of_lt hg hl, Int.emod_eq_of_lt hg hl]
  have := Int.emod_add_mul_ediv x (2 ^ s)
  rw [Int.mul_comm (x / 2 ^ s)]
  omega
theorem power_l0 (n : Nat) (hn : n ≤ 31) : ∀ (d i : Nat), n - i = d → i ≤ n → Ev (fun k => batonref01_power.l0 k (n : Int) (2 ^ i) (i : Int)) (2 ^ n) := by
  intro d
  induction d with
  | zero =>
    intro i hd hi
    obtain rfl : i = n := by omega
    apply ev_succ
    simp only [batonref01_power.l0, if_neg (show ¬ ((i : Int) < (i : Int)) by omega)]
    exact ev_some _
  | succ d ih =>
    intro i hd hi
    have hw : wrap64 ((i : Int) + 1) = ((i + 1 : Nat) : Int) := by rw [w64 (by omega) (by omega)]; omega
    have hp : (2 : Int) ^ i * 2 % 4294967296 = 2 ^ (i + 1) := by
      rw [← Int.pow_succ]
      have h1 : (2 : Nat) ^ (i + 1) < 2 ^ 32 := Nat.pow_lt_pow_right (by decide) (by omega)
      have h2 : (2 : Int) ^ (i + 1) < 4294967296 := by
        rw [← castpow]
        have h3 : (2 : Nat) ^ (i + 1) < 4294967296 := h1
        omega
      have := pow2_pos (i + 1)
      omega
    apply ev_succ
    simp only [batonref01_power.l0, if_pos (show (i : Int) < (n : Int) by omega), hw, hp]
    exact ih (i + 1) (by omega) (by omega)
theorem power_ev (n : Nat) (hn : n ≤ 31) : Ev (fun k => batonref01_power.f k (n : Int)) (2 ^ n) := by
  unfold batonref01_power.f
  have := power_l0 n hn n 0 (by omega) (by omega)
  simpa using this
theorem refRot_ev (x : Int) (s : Nat) (hs : s < 32) (h0 : 0 ≤ x) (h1 : x ≤ 4294967295) : Ev (fun k => batonref01_Rot.f k x (s : Int)) (rotS x s) := by
  unfold batonref01_Rot.f
  by_cases e : s = 0
  · subst e
    simp only [if_pos (show ((0 : Nat) : Int) = 0 from rfl)]
    exact ev_eq (ev_some _) (by simp [rotS])
  · simp only [if_neg (show ¬ ((s : Int) = 0) by omega)]
    refine ev_bind (power_ev s (by omega)) ?_
    have hp := pow2_pos s
    simp only [if_neg (show ¬ ((2 : Int) ^ s = 0) by omega), show wrap64 (32 - (s : Int)) = ((32 - s : Nat) : Int) by rw [w64 (by omega) (by omega)]; omega]
    refine ev_bind (power_ev (32 - s) (by omega)) ?_
    refine ev_eq (ev_some _) ?_
    have hr := rotS_range hs h0 h1
    have hq := hi_le (show s ≤ 32 by omega) x
    have hg := lo_ge (s := s) h0
    have hle := Int.ediv_le_self (2 ^ s) h0
    have er : rotS x s = x / 2 ^ s + x % 2 ^ s * 2 ^ (32 - s) := by unfold rotS; rw [if_neg e]
    rw [er] at hr ⊢
    rw [Int.tdiv_eq_ediv_of_nonneg h0, Int.tmod_eq_emod_of_nonneg h0]
    omega

/-! ### word.Bytes, word.Words -/
def four (x : Int) : List Int := [x / 16777216 % 256, x / 65536 % 256, x / 256 % 256, x % 256]
def bytesL (l : List Int) : List Int := l.flatMap four
theorem four_len (x : Int) : (four x).length = 4 := rfl
theorem bytesL_len (l : List Int) : (bytesL l).length = 4 * l.length := by
  induction l with
  | nil => rfl
  | cons x l ih =>
    show (four x ++ bytesL l).length = _
    rw [List.length_append, ih, four_len, List.length_cons]
    omega
theorem four_bytes (x : Int) : Bytes (four x) := by
  intro y hy
  simp only [four, List.mem_cons, List.not_mem_nil, or_false] at hy
  rcases hy with rfl | rfl | rfl | rfl <;> omega
theorem bytesL_bytes (l : List Int) : Bytes (bytesL l) := by
  intro y hy
  obtain ⟨x, _, hx⟩ := List.mem_flatMap.1 hy
  exact four_bytes x y hx
theorem bytesL_split (l : List Int) (i : Nat) : bytesL l = bytesL (l.take i) ++ bytesL (l.drop i) := by
  unfold bytesL
  rw [← List.flatMap_append, List.take_append_drop]
theorem bytesL_at (l : List Int) (i : Nat) (h : i < l.length) : (bytesL l).drop (4 * i) = four l[i] ++ bytesL (l.drop (i + 1)) := by
  have hl : (bytesL (l.take i)).length = 4 * i := by rw [bytesL_len, List.length_take]; omega
  rw [bytesL_split l i, ← hl, List.drop_left, List.drop_eq_getElem_cons h]
  rfl
theorem Bytes_l0 (l : List Int) (hl : l.length ≤ 1000000000000) : ∀ (d i : Nat), l.length - i = d → i ≤ l.length → Ev (fun k => word_Bytes.l0 k (bytesL (l.take i)) l (l.length : Int) (i : Int)) (bytesL l) := by
  intro d
  induction d with
  | zero =>
    intro i hd hi
    obtain rfl : i = l.length := by omega
    apply ev_succ
    simp only [word_Bytes.l0, if_neg (show ¬ ((l.length : Int) < (l.length : Int)) by omega), List.take_length]
    exact ev_some _
  | succ d ih =>
    intro i hd hi
    have hlt : i < l.length := by omega
    have hw : wrap64 ((i : Int) + 1) = ((i + 1 : Nat) : Int) := by rw [w64 (by omega) (by omega)]; omega
    have hlen : (bytesL (l.take i)).length + [l[i] / 16777216 % 256, l[i] / 65536 % 256, l[i] / 256 % 256, l[i] % 256].length < 140737488355328 := by
      rw [bytesL_len, List.length_take]
      simp only [List.length_cons, List.length_nil]
      omega
    apply ev_succ
    simp only [word_Bytes.l0, if_pos (show (i : Int) < (l.length : Int) by omega), if_pos (show (0 : Int) ≤ (i : Int) by omega), rd_lt hlt, hw, Option.bind_some, if_pos hlen]
    have e : bytesL (l.take i) ++ [l[i] / 16777216 % 256, l[i] / 65536 % 256, l[i] / 256 % 256, l[i] % 256] = bytesL (l.take (i + 1)) := by
      rw [List.take_succ_eq_append_getElem hlt]
      unfold bytesL
      rw [List.flatMap_append]
      rfl
    rw [e]
    exact ih (i + 1) (by omega) (by omega)
theorem Bytes_ev (l : List Int) (hl : l.length ≤ 1000000000000) : Ev (fun k => word_Bytes.f k l) (bytesL l) := by
  unfold word_Bytes.f
  have := Bytes_l0 l hl l.length 0 (by omega) (by omega)
  simpa [bytesL] using this
def unfour (a b c d : Int) : Int := a * 16777216 + b * 65536 + c * 256 + d
def wordsL : List Int → List Int
  | a :: b :: c :: d :: l => unfour a b c d :: wordsL l
  | _ => []
theorem or4 {a b c d : Int} (ha : 0 ≤ a ∧ a ≤ 255) (hb : 0 ≤ b ∧ b ≤ 255) (hc : 0 ≤ c ∧ c ≤ 255) (hd : 0 ≤ d ∧ d ≤ 255) :
    Go.bits .or .u32 (Go.bits .or .u32 (Go.bits .or .u32 (((a % 4294967296) * 16777216) % 4294967296) (((b % 4294967296) * 65536) % 4294967296)) (((c % 4294967296) * 256) % 4294967296)) (d % 4294967296) = unfour a b c d := by
  rw [or_u32_join 24 (x := ((a % 4294967296) * 16777216) % 4294967296) (by omega) (by omega) (by omega) (by omega) (by omega) (by omega)]
  rw [or_u32_join 16 (x := ((a % 4294967296) * 16777216) % 4294967296 + ((b % 4294967296) * 65536) % 4294967296) (by omega) (by omega) (by omega) (by omega) (by omega) (by omega)]
  rw [or_u32_join 8 (by omega) (by omega) (by omega) (by omega) (by omega) (by omega)]
  unfold unfour
  omega
theorem Words_l0 (b : List Int) (hb : Bytes b) (hl : b.length ≤ 1000000000000) (h4 : b.length % 4 = 0) : ∀ (d i : Nat) (acc : List Int), b.length - 4 * i = 4 * d → 4 * i ≤ b.length → acc.length ≤ i → Ev (fun k => word_Words.l0 k b acc ((4 * i : Nat) : Int)) (acc ++ wordsL (b.drop (4 * i)), 0) := by
  intro d
  induction d with
  | zero =>
    intro i acc hd hi ha
    have e : 4 * i = b.length := by omega
    apply ev_succ
    rw [e]
    simp only [word_Words.l0, if_neg (show ¬ ((b.length : Int) < (b.length : Int)) by omega), List.drop_length]
    exact ev_eq (ev_some _) (by simp [wordsL])
  | succ d ih =>
    intro i acc hd hi ha
    have w1 : wrap64 (((4 * i : Nat) : Int) + 1) = ((4 * i + 1 : Nat) : Int) := by rw [w64 (by omega) (by omega)]; omega
    have w2 : wrap64 (((4 * i : Nat) : Int) + 2) = ((4 * i + 2 : Nat) : Int) := by rw [w64 (by omega) (by omega)]; omega
    have w3 : wrap64 (((4 * i : Nat) : Int) + 3) = ((4 * i + 3 : Nat) : Int) := by rw [w64 (by omega) (by omega)]; omega
    have w4 : wrap64 (((4 * i : Nat) : Int) + 4) = ((4 * (i + 1) : Nat) : Int) := by rw [w64 (by omega) (by omega)]; omega
    have l0 : 4 * i < b.length := by omega
    have l1 : 4 * i + 1 < b.length := by omega
    have l2 : 4 * i + 2 < b.length := by omega
    have l3 : 4 * i + 3 < b.length := by omega
    have e := or4 (hb _ (List.getElem_mem l0)) (hb _ (List.getElem_mem l1)) (hb _ (List.getElem_mem l2)) (hb _ (List.getElem_mem l3))
    apply ev_succ
    simp only [word_Words.l0, w1, w2, w3, w4, rd_lt l0, rd_lt l1, rd_lt l2, rd_lt l3, e, if_pos (show ((4 * i : Nat) : Int) < (b.length : Int) by omega), if_pos (show (0 : Int) ≤ ((4 * i : Nat) : Int) by omega), if_pos (show (0 : Int) ≤ ((4 * i + 1 : Nat) : Int) by omega), if_pos (show ((4 * i + 1 : Nat) : Int) < (b.length : Int) by omega), if_pos (show (0 : Int) ≤ ((4 * i + 2 : Nat) : Int) by omega), if_pos (show ((4 * i + 2 : Nat) : Int) < (b.length : Int) by omega), if_pos (show (0 : Int) ≤ ((4 * i + 3 : Nat) : Int) by omega), if_pos (show ((4 * i + 3 : Nat) : Int) < (b.length : Int) by omega), if_pos (show acc.length < 35184372088832 by omega)]
    refine ev_eq (ih (i + 1) _ (by omega) (by omega) (by rw [List.length_append, List.length_singleton]; omega)) ?_
    rw [List.drop_eq_getElem_cons l0, List.drop_eq_getElem_cons l1, List.drop_eq_getElem_cons l2, List.drop_eq_getElem_cons l3, show 4 * (i + 1) = 4 * i + 3 + 1 by omega]
    simp only [wordsL, List.append_assoc, List.singleton_append]
def wordsSpec (b : List Int) : List Int × Int := if b.length % 4 = 0 then (wordsL b, 0) else ([], 4)
theorem Words_ev (b : List Int) (hb : Bytes b) (hl : b.length ≤ 1000000000000) : Ev (fun k => word_Words.f k b) (wordsSpec b) := by
  unfold word_Words.f wordsSpec
  by_cases c : b.length % 4 = 0
  · simp only [if_pos (show (b.length : Int) % 4 = 0 by omega), if_pos c]
    have := Words_l0 b hb hl c (b.length / 4) 0 [] (by omega) (by omega) (by simp)
    simpa using this
  · simp only [if_neg (show ¬ ((b.length : Int) % 4 = 0) by omega), if_neg c]
    exact ev_some _
theorem unfour_four {x : Int} (h0 : 0 ≤ x) (h1 : x ≤ 4294967295) : unfour (x / 16777216 % 256) (x / 65536 % 256) (x / 256 % 256) (x % 256) = x := by unfold unfour; omega
theorem words_bytes {l : List Int} (h : ∀ x ∈ l, 0 ≤ x ∧ x ≤ 4294967295) : wordsL (bytesL l) = l := by
  induction l with
  | nil => rfl
  | cons x l ih =>
    have hx := h x (by simp)
    show unfour _ _ _ _ :: wordsL (bytesL l) = _
    rw [unfour_four hx.1 hx.2, ih (fun y hy => h y (by simp [hy]))]
theorem four_unfour {a b c d : Int} (ha : 0 ≤ a ∧ a ≤ 255) (hb : 0 ≤ b ∧ b ≤ 255) (hc : 0 ≤ c ∧ c ≤ 255) (hd : 0 ≤ d ∧ d ≤ 255) : four (unfour a b c d) = [a, b, c, d] := by
  unfold four unfour
  rw [show (a * 16777216 + b * 65536 + c * 256 + d) / 16777216 % 256 = a by omega, show (a * 16777216 + b * 65536 + c * 256 + d) / 65536 % 256 = b by omega, show (a * 16777216 + b * 65536 + c * 256 + d) / 256 % 256 = c by omega, show (a * 16777216 + b * 65536 + c * 256 + d) % 256 = d by omega]
theorem bytes_words : ∀ (n : Nat) {b : List Int}, Bytes b → b.length = 4 * n → bytesL (wordsL b) = b := by
  intro n
  induction n with
  | zero =>
    intro b hb h
    obtain rfl : b = [] := List.length_eq_zero_iff.1 (by omega)
    rfl
  | succ n ih =>
    intro b hb h
    match b, hb, h with
    | a :: b :: c :: d :: l, hb, h =>
      show four (unfour a b c d) ++ bytesL (wordsL l) = _
      simp only [List.length_cons] at h
      rw [four_unfour (hb a (by simp)) (hb b (by simp)) (hb c (by simp)) (hb d (by simp)), ih (fun x hx => hb x (by simp [hx])) (by omega)]
      rfl
theorem words_len : ∀ (n : Nat) {b : List Int}, b.length = 4 * n → (wordsL b).length = n := by
  intro n
  induction n with
  | zero =>
    intro b h
    obtain rfl : b = [] := List.length_eq_zero_iff.1 (by omega)
    rfl
  | succ n ih =>
    intro b h
    match b, h with
    | a :: b :: c :: d :: l, h =>
      simp only [List.length_cons] at h
      show (unfour a b c d :: wordsL l).length = _
      rw [List.length_cons, ih (by omega)]
theorem num_four {x : Int} (h0 : 0 ≤ x) (h1 : x ≤ 4294967295) : num (four x) = x := by
  unfold num four stepN
  simp only [List.foldl_cons, List.foldl_nil]
  omega

/-! ### rosters -/
theorem rd115 (l : List S115) (i : Nat) (h : i < l.length) : rd_T115 l (i : Int) = l[i] := by
  unfold rd_T115
  simp [List.getD_eq_getElem?_getD, h]
theorem rd167 (l : List S167) (i : Nat) (h : i < l.length) : rd_T167 l (i : Int) = l[i] := by
  unfold rd_T167
  simp [List.getD_eq_getElem?_getD, h]
def cv (t : S115) : S167 := ⟨t.f0, t.f1, t.f2, t.f3⟩
theorem Ref_l0 (l : List S115) (hl : l.length ≤ 1000000) : ∀ (d i : Nat), l.length - i = d → i ≤ l.length → Ev (fun k => batonlaw25_Ref.l0 k l ((l.take i).map cv) (i : Int)) (l.map cv) := by
  intro d
  induction d with
  | zero =>
    intro i hd hi
    obtain rfl : i = l.length := by omega
    apply ev_succ
    simp only [batonlaw25_Ref.l0, if_neg (show ¬ ((l.length : Int) < (l.length : Int)) by omega)]
    exact ev_eq (ev_some _) (by rw [List.take_length])
  | succ d ih =>
    intro i hd hi
    have hlt : i < l.length := by omega
    have hw : wrap64 ((i : Int) + 1) = ((i + 1 : Nat) : Int) := by rw [w64 (by omega) (by omega)]; omega
    have hn : ((l.take i).map cv).length < 4398046511104 := by simp; omega
    have h := ih (i + 1) (by omega) (by omega)
    rw [← List.take_append_getElem hlt, List.map_append] at h
    apply ev_succ
    simp only [batonlaw25_Ref.l0, if_pos (show (i : Int) < (l.length : Int) by omega), if_pos (show (0 : Int) ≤ (i : Int) by omega), if_pos hn, rd115 l i hlt, hw]
    exact h
theorem Ref_ev (l : List S115) (hl : l.length ≤ 1000000) : Ev (fun k => batonlaw25_Ref.f k l) (l.map cv) := by
  unfold batonlaw25_Ref.f
  exact Ref_l0 l hl l.length 0 (by omega) (by omega)
def okD (x : S167) : Prop := x.f0 ≤ 15 ∧ 1 ≤ x.f1 ∧ x.f1 ≤ 1000 ∧ 0 ≤ x.f3 ∧ x.f3 ≤ 281474976710656
def RT : Int → List S167 → Prop
  | _, [] => True
  | last, x :: t => okD x ∧ last < x.f0 ∧ RT x.f0 t
noncomputable instance (last : Int) (l : List S167) : Decidable (RT last l) := Classical.propDecidable _
theorem RT_iff : ∀ (l : List S167) (last : Int), RT last l ↔ (∀ x ∈ l, okD x ∧ last < x.f0) ∧ l.Pairwise (fun a b => a.f0 < b.f0)
  | [], last => by simp [RT]
  | x :: t, last => by
    show (okD x ∧ last < x.f0 ∧ RT x.f0 t) ↔ _
    rw [RT_iff t x.f0, List.pairwise_cons, List.forall_mem_cons]
    constructor
    · rintro ⟨h1, h2, h3, h4⟩
      exact ⟨⟨⟨h1, h2⟩, fun y hy => ⟨(h3 y hy).1, Int.lt_trans h2 (h3 y hy).2⟩⟩, fun y hy => (h3 y hy).2, h4⟩
    · rintro ⟨⟨⟨h1, h2⟩, h3⟩, h4, h5⟩
      exact ⟨h1, h2, fun y hy => ⟨(h3 y hy).1, h4 y hy⟩, h5⟩
theorem RRight_l0 (l : List S167) (hl : l.length ≤ 1000000) : ∀ (d i : Nat) (last : Int), l.length - i = d → i ≤ l.length → Ev (fun k => batonref25_Right.l0 k l last (i : Int)) (decide (RT last (l.drop i))) := by
  intro d
  induction d with
  | zero =>
    intro i last hd hi
    obtain rfl : i = l.length := by omega
    apply ev_succ
    simp only [batonref25_Right.l0, if_neg (show ¬ ((l.length : Int) < (l.length : Int)) by omega), List.drop_length]
    exact ev_eq (ev_some _) (decide_eq_true (show RT last [] from trivial)).symm
  | succ d ih =>
    intro i last hd hi
    have hlt : i < l.length := by omega
    have hw : wrap64 ((i : Int) + 1) = ((i + 1 : Nat) : Int) := by rw [w64 (by omega) (by omega)]; omega
    have hdr : RT last (l.drop i) ↔ (okD l[i] ∧ last < l[i].f0 ∧ RT l[i].f0 (l.drop (i + 1))) := by
      rw [List.drop_eq_getElem_cons hlt]
      exact Iff.rfl
    have no : ∀ (P : Prop), (okD l[i] ∧ last < l[i].f0 → ¬ P) → P → false = decide (RT last (l.drop i)) := fun P h1 h2 => (decide_eq_false (fun h => h1 ⟨(hdr.1 h).1, (hdr.1 h).2.1⟩ h2)).symm
    apply ev_succ
    simp only [batonref25_Right.l0, if_pos (show (i : Int) < (l.length : Int) by omega), if_pos (show (0 : Int) ≤ (i : Int) by omega), rd167 l i hlt, hw]
    by_cases c1 : l[i].f0 ≤ last
    · simp only [if_pos c1]
      exact ev_eq (ev_some _) (no _ (fun h => by omega) c1)
    · by_cases c2 : l[i].f0 > 15
      · simp only [if_neg c1, if_pos c2]
        exact ev_eq (ev_some _) (no _ (fun h => by have := h.1.1; omega) c2)
      · by_cases c3 : l[i].f1 < 1
        · simp only [if_neg c1, if_neg c2, if_pos c3]
          exact ev_eq (ev_some _) (no _ (fun h => by have := h.1.2.1; omega) c3)
        · by_cases c4 : l[i].f1 > 1000
          · simp only [if_neg c1, if_neg c2, if_neg c3, if_pos c4]
            exact ev_eq (ev_some _) (no _ (fun h => by have := h.1.2.2.1; omega) c4)
          · by_cases c5 : l[i].f3 < 0
            · simp only [if_neg c1, if_neg c2, if_neg c3, if_neg c4, if_pos c5]
              exact ev_eq (ev_some _) (no _ (fun h => by have := h.1.2.2.2.1; omega) c5)
            · by_cases c6 : l[i].f3 > 281474976710656
              · simp only [if_neg c1, if_neg c2, if_neg c3, if_neg c4, if_neg c5, if_pos c6]
                exact ev_eq (ev_some _) (no _ (fun h => by have := h.1.2.2.2.2; omega) c6)
              · simp only [if_neg c1, if_neg c2, if_neg c3, if_neg c4, if_neg c5, if_neg c6]
                refine ev_eq (ih (i + 1) l[i].f0 (by omega) (by omega)) (decide_eq_decide.2 ?_)
                rw [hdr]
                exact ⟨fun h => ⟨⟨by omega, by omega, by omega, by omega, by omega⟩, by omega, h⟩, fun h => h.2.2⟩
theorem RRight_ev (l : List S167) (hl : l.length ≤ 1000000) : Ev (fun k => batonref25_Right.f k l) (decide (RT (-1) l)) := by
  unfold batonref25_Right.f
  exact RRight_l0 l hl l.length 0 (-1) (by omega) (by omega)
theorem bsI_eq (id : Int) (l : List S115) (m : Nat) (hA : ∀ k (h : k < l.length), k < m → l[k].f0 < id) (hB : ∀ k (h : k < l.length), m ≤ k → id ≤ l[k].f0) : ∀ (d : Nat) (i j : Int), 0 ≤ i → i ≤ (m : Int) → (m : Int) ≤ j → j ≤ (l.length : Int) → (j - i).toNat ≤ d → bsI id l d i j = (m : Int)
  | 0, i, j, h0, h1, h2, h3, h4 => by
    show i = (m : Int)
    omega
  | d + 1, i, j, h0, h1, h2, h3, h4 => by
    unfold bsI
    by_cases c : i < j
    · rw [if_pos c]
      obtain ⟨n, hn⟩ := Int.eq_ofNat_of_zero_le (show 0 ≤ (i + j) / 2 by omega)
      have hnl : n < l.length := by omega
      rw [hn, rd115 l n hnl]
      by_cases c2 : l[n].f0 < id
      · rw [if_pos c2]
        have hm : n < m := by
          rcases Nat.lt_or_ge n m with h | h
          · exact h
          · have := hB n hnl h; omega
        exact bsI_eq id l m hA hB d _ _ (by omega) (by omega) h2 h3 (by omega)
      · rw [if_neg c2]
        have hm : m ≤ n := by
          rcases Nat.lt_or_ge n m with h | h
          · exact absurd (hA n hnl h) c2
          · exact h
        exact bsI_eq id l m hA hB d _ _ h0 h1 (by omega) (by omega) (by omega)
    · rw [if_neg c]
      omega
theorem rd_mid (A C : List S115) (y : S115) : rd_T115 (A ++ y :: C) (A.length : Int) = y := by
  rw [rd115 _ _ (by simp)]
  simp
theorem rd_midR (A C : List S167) (y : S167) : rd_T167 (A ++ y :: C) (A.length : Int) = y := by
  rw [rd167 _ _ (by simp)]
  simp
theorem bsI_app (id : Int) (A B : List S115) (hA : ∀ x ∈ A, x.f0 < id) (hB : ∀ x ∈ B, id ≤ x.f0) : bsI id (A ++ B) (A ++ B).length 0 ((A ++ B).length : Int) = (A.length : Int) := by
  refine bsI_eq id (A ++ B) A.length (fun k h hk => ?_) (fun k h hk => ?_) _ _ _ (by omega) (by omega) (by simp; omega) (by omega) (by omega)
  · rw [List.getElem_append_left hk]
    exact hA _ (List.getElem_mem hk)
  · rw [List.getElem_append_right hk]
    exact hB _ (List.getElem_mem _)
theorem place_found (id : Int) (A C : List S115) (y : S115) (hA : ∀ x ∈ A, x.f0 < id) (hy : y.f0 = id) (hC : ∀ x ∈ C, id < x.f0) (hl : (A ++ y :: C).length < 1000000000) : roster_place.f (A ++ y :: C) id = some ((A.length : Int), true) := by
  have hb := bsI_app id A (y :: C) hA (fun x hx => by rcases List.mem_cons.1 hx with rfl | h; omega; have := hC x h; omega)
  simp only [roster_place.f, roster_Device_int.f, if_pos hl, hb, rd_mid, hy, Option.bind_some]
  rw [decide_eq_true (show (A.length : Int) < ((A ++ y :: C).length : Int) by simp; omega)]
  simp
theorem place_absent (id : Int) (A B : List S115) (hA : ∀ x ∈ A, x.f0 < id) (hB : ∀ x ∈ B, id < x.f0) (hl : (A ++ B).length < 1000000000) : roster_place.f (A ++ B) id = some ((A.length : Int), false) := by
  have hb := bsI_app id A B hA (fun x hx => by have := hB x hx; omega)
  simp only [roster_place.f, roster_Device_int.f, if_pos hl, hb, Option.bind_some]
  congr 2
  cases B with
  | nil => simp
  | cons y C =>
    rw [rd_mid, beq_eq_false_iff_ne.2 (by have := hB y (by simp); omega), Bool.and_false]
theorem split_at (id : Int) : ∀ (l : List S115) (last : Int), RT last (l.map cv) → ∃ A B, l = A ++ B ∧ (∀ x ∈ A, x.f0 < id) ∧ ((∀ x ∈ B, id < x.f0) ∨ ∃ y C, B = y :: C ∧ y.f0 = id ∧ ∀ x ∈ C, id < x.f0)
  | [], last, _ => ⟨[], [], rfl, by simp, .inl (by simp)⟩
  | x :: t, last, h => by
    obtain ⟨_, _, h3⟩ : okD (cv x) ∧ last < x.f0 ∧ RT x.f0 (t.map cv) := h
    have hgt : ∀ z ∈ t, x.f0 < z.f0 := fun z hz => (((RT_iff _ _).1 h3).1 (cv z) (List.mem_map_of_mem hz)).2
    by_cases c1 : x.f0 < id
    · obtain ⟨A, B, rfl, hA, hB⟩ := split_at id t x.f0 h3
      exact ⟨x :: A, B, rfl, List.forall_mem_cons.2 ⟨c1, hA⟩, hB⟩
    · by_cases c2 : x.f0 = id
      · exact ⟨[], x :: t, rfl, by simp, .inr ⟨x, t, rfl, c2, fun z hz => by have := hgt z hz; omega⟩⟩
      · exact ⟨[], x :: t, rfl, by simp, .inl (List.forall_mem_cons.2 ⟨by omega, fun z hz => by have := hgt z hz; omega⟩)⟩
theorem awake25 : Ev (fun k => batonlaw25_awake.f k) true := Ev.of (fun k => batonlaw25_awake.mono k) (k := 10) (by decide +kernel)
theorem RFind_to (L : List S167) (id : Int) (hl : L.length ≤ 1000000) (m : Nat) (hA : ∀ k (h : k < L.length), k < m → L[k].f0 ≠ id) (r : Int) (hr : (m = L.length ∧ r = -1) ∨ ∃ h : m < L.length, L[m].f0 = id ∧ r = (m : Int)) : ∀ (d i : Nat), m - i = d → i ≤ m → Ev (fun k => batonref25_Find.l0 k L id (i : Int)) r := by
  intro d
  induction d with
  | zero =>
    intro i hd hi
    obtain rfl : i = m := by omega
    apply ev_succ
    rcases hr with ⟨h1, rfl⟩ | ⟨h1, h2, rfl⟩
    · simp only [batonref25_Find.l0, if_neg (show ¬ ((i : Int) < (L.length : Int)) by omega)]
      exact ev_some _
    · simp only [batonref25_Find.l0, if_pos (show (i : Int) < (L.length : Int) by omega), if_pos (show (0 : Int) ≤ (i : Int) by omega), rd167 L i h1, if_pos h2]
      exact ev_some _
  | succ d ih =>
    intro i hd hi
    have hlt : i < L.length := by rcases hr with ⟨h1, _⟩ | ⟨h1, _⟩ <;> omega
    have hw : wrap64 ((i : Int) + 1) = ((i + 1 : Nat) : Int) := by rw [w64 (by omega) (by omega)]; omega
    apply ev_succ
    simp only [batonref25_Find.l0, if_pos (show (i : Int) < (L.length : Int) by omega), if_pos (show (0 : Int) ≤ (i : Int) by omega), rd167 L i hlt, if_neg (hA i hlt (by omega)), hw]
    exact ih (i + 1) (by omega) (by omega)
theorem RFind_found (id : Int) (A C : List S115) (y : S115) (hA : ∀ x ∈ A, x.f0 < id) (hy : y.f0 = id) (hl : (A ++ y :: C).length ≤ 1000) : Ev (fun k => batonref25_Find.f k ((A ++ y :: C).map cv) id) (A.length : Int) := by
  unfold batonref25_Find.f
  refine RFind_to _ id (by rw [List.length_map]; omega) A.length (fun k h hk => ?_) _ (.inr ⟨by simp, ?_, rfl⟩) A.length 0 (by omega) (by omega)
  · rw [List.getElem_map, List.getElem_append_left hk]
    have := hA _ (List.getElem_mem hk)
    show (A[k]).f0 ≠ id
    omega
  · rw [List.getElem_map, List.getElem_append_right (Nat.le_refl _)]
    simpa [cv] using hy
theorem RFind_absent (id : Int) (A B : List S115) (hA : ∀ x ∈ A, x.f0 < id) (hB : ∀ x ∈ B, id < x.f0) (hl : (A ++ B).length ≤ 1000) : Ev (fun k => batonref25_Find.f k ((A ++ B).map cv) id) (-1) := by
  unfold batonref25_Find.f
  refine RFind_to _ id (by rw [List.length_map]; omega) ((A ++ B).map cv).length (fun k h hk => ?_) _ (.inl ⟨rfl, rfl⟩) ((A ++ B).map cv).length 0 (by omega) (by omega)
  have hk' : k < (A ++ B).length := by rw [List.length_map] at h; exact h
  rw [List.getElem_map]
  have hm : (A ++ B)[k] ∈ A ++ B := List.getElem_mem hk'
  rcases List.mem_append.1 hm with h2 | h2
  · have := hA _ h2
    show (A ++ B)[k].f0 ≠ id
    omega
  · have := hB _ h2
    show (A ++ B)[k].f0 ≠ id
    omega
theorem Find_found (id : Int) (A C : List S115) (y : S115) (hA : ∀ x ∈ A, x.f0 < id) (hy : y.f0 = id) (hC : ∀ x ∈ C, id < x.f0) (hl : (A ++ y :: C).length ≤ 1000) : roster_Find.f (A ++ y :: C) id = some (y.f0, y.f1, y.f2, y.f3, true) := by
  simp only [roster_Find.f, place_found id A C y hA hy hC (by omega), Option.bind_some, if_true, rd_mid]
  rw [if_pos (show (0 : Int) ≤ (A.length : Int) by omega), if_pos (show (A.length : Int) < ((A ++ y :: C).length : Int) by simp; omega)]
theorem Find_absent (id : Int) (A B : List S115) (hA : ∀ x ∈ A, x.f0 < id) (hB : ∀ x ∈ B, id < x.f0) (hl : (A ++ B).length ≤ 1000) : roster_Find.f (A ++ B) id = some (0, 0, false, 0, false) := by
  simp only [roster_Find.f, place_absent id A B hA hB (by omega), Option.bind_some, Bool.false_eq_true, if_false]
/-- Which device a number is: the code's answer, and the document's. -/
theorem finds (l : List S115) (id : Int) (h : RT (-1) (l.map cv)) (hl : l.length ≤ 30) : (roster_Find.f l id = some (0, 0, false, 0, false) ∧ Ev (fun k => batonref25_Find.f k (l.map cv) id) (-1)) ∨ ∃ i : Nat, ∃ hi : i < l.length, roster_Find.f l id = some ((l[i]).f0, (l[i]).f1, (l[i]).f2, (l[i]).f3, true) ∧ Ev (fun k => batonref25_Find.f k (l.map cv) id) (i : Int) := by
  obtain ⟨A, B, rfl, hA, hB | ⟨y, C, rfl, hy, hC⟩⟩ := split_at id l (-1) h
  · exact .inl ⟨Find_absent id A B hA hB (by omega), RFind_absent id A B hA hB (by omega)⟩
  · refine .inr ⟨A.length, by simp <;> omega, ?_, RFind_found id A C y hA hy (by omega)⟩
    rw [List.getElem_append_right (Nat.le_refl _)]
    simpa using Find_found id A C y hA hy hC (by omega)

end Go.Proofs.Ytdbfclfglpbpmaa.LF25F
