/- Plain lemmas on the functions of this family (CrcJoins): what each loop comes to. No condition. -/
import Derived.Test.YtaiiegbhbadciaaBase
import Derived.Test.YtaiiegbhbadciaaPF07Jx
namespace Go.Proofs.Ytaiiegbhbadciaa.LF07J
open Go.RowKit Go.Proofs.Ytaiiegbhbadciaa.Base Go.Proofs.YtaiiegbhbadciaaW.PrintWords Go.Proofs.YtaiiegbhbadciaaW.PrintMore Go.Proofs.Ytaiiegbhbadciaa.PF07J
set_option linter.unusedVariables false
set_option linter.unusedSimpArgs false

/-! ### check sums -/
def stp (c : Nat) : Nat := if c % 2 = 1 then c / 2 ^^^ 2197175160 else c / 2
def stps : Nat → Nat → Nat
  | 0, c => c
  | n + 1, c => stps n (stp c)
theorem stp_xor (a b : Nat) : stp (a ^^^ b) = stp a ^^^ stp b := by
  have h := @Nat.xor_mod_two_eq_one a b
  unfold stp
  rw [Nat.xor_div_two]
  by_cases ha : a % 2 = 1
  · by_cases hb : b % 2 = 1
    · rw [if_neg (by rw [h]; simp [ha, hb]), if_pos ha, if_pos hb]
      rw [Nat.xor_assoc, Nat.xor_comm 2197175160, Nat.xor_assoc, Nat.xor_self, Nat.xor_zero]
    · rw [if_pos (by rw [h]; simp [ha, hb]), if_pos ha, if_neg hb]
      rw [Nat.xor_assoc, Nat.xor_comm (b / 2), ← Nat.xor_assoc]
  · by_cases hb : b % 2 = 1
    · rw [if_pos (by rw [h]; simp [ha, hb]), if_neg ha, if_pos hb, Nat.xor_assoc]
    · rw [if_neg (by rw [h]; simp [ha, hb]), if_neg ha, if_neg hb]
theorem stps_xor (n a b : Nat) : stps n (a ^^^ b) = stps n a ^^^ stps n b := by
  induction n generalizing a b with
  | zero => rfl
  | succ n ih => simp only [stps, stp_xor, ih]
theorem stp_lt {c : Nat} (h : c < 4294967296) : stp c < 4294967296 := by
  unfold stp
  split
  · exact Nat.xor_lt_two_pow (n := 32) (by omega) (by decide)
  · omega
theorem stps_lt (n : Nat) {c : Nat} (h : c < 4294967296) : stps n c < 4294967296 := by
  induction n generalizing c with
  | zero => exact h
  | succ n ih => exact ih (stp_lt h)
theorem stp_even (m : Nat) : stp (2 * m) = m := by
  unfold stp
  rw [if_neg (by omega)]
  omega
theorem xor_eq_zero {a b : Nat} (h : a ^^^ b = 0) : a = b := by
  have h2 : a ^^^ (a ^^^ b) = a := by rw [h, Nat.xor_zero]
  rw [← Nat.xor_assoc, Nat.xor_self, Nat.zero_xor] at h2
  exact h2.symm
theorem stp_zero {c : Nat} (h : c < 4294967296) (e : stp c = 0) : c = 0 := by
  unfold stp at e
  split at e
  · have := xor_eq_zero e
    omega
  · omega
theorem stps_zero (n : Nat) {c : Nat} (h : c < 4294967296) (e : stps n c = 0) : c = 0 := by
  induction n generalizing c with
  | zero => exact e
  | succ n ih => exact stp_zero h (ih (stp_lt h) e)
theorem stps_of_zero (n : Nat) : stps n 0 = 0 := by
  induction n with
  | zero => rfl
  | succ n ih => exact ih
theorem join_xor (n z t : Nat) (h : t < 2 ^ n) : 2 ^ n * z + t = 2 ^ n * z ^^^ t := by
  apply Nat.eq_of_testBit_eq
  intro j
  have h0 : (2 ^ n * z).testBit j = if j < n then false else z.testBit (j - n) := by
    have := Nat.testBit_two_pow_mul_add z (b := 0) (i := n) (Nat.two_pow_pos n) j
    rw [Nat.add_zero] at this
    rw [this]
    simp
  rw [Nat.testBit_two_pow_mul_add z h, Nat.testBit_xor, h0]
  split
  · simp
  · rw [Nat.testBit_lt_two_pow (Nat.lt_of_lt_of_le h (Nat.pow_le_pow_right (by decide) (by omega)))]
    simp
theorem stps8_high (z : Nat) : stps 8 (256 * z) = z := by
  simp only [stps]
  rw [show 256 * z = 2 * (128 * z) by omega, stp_even, show 128 * z = 2 * (64 * z) by omega, stp_even, show 64 * z = 2 * (32 * z) by omega, stp_even, show 32 * z = 2 * (16 * z) by omega, stp_even, show 16 * z = 2 * (8 * z) by omega, stp_even, show 8 * z = 2 * (4 * z) by omega, stp_even, show 4 * z = 2 * (2 * z) by omega, stp_even, stp_even]
theorem stps8_split (y : Nat) : stps 8 y = y / 256 ^^^ stps 8 (y % 256) := by
  have h := join_xor 8 (y / 256) (y % 256) (by omega)
  rw [show 2 ^ 8 * (y / 256) + y % 256 = y by omega] at h
  conv => lhs; rw [h]
  rw [stps_xor, show (2 : Nat) ^ 8 = 256 from rfl, stps8_high]
theorem not32 {c : Nat} (h : c < 4294967296) : 4294967295 ^^^ c = 4294967295 - c := by
  have e : (BitVec.allOnes 32 ^^^ BitVec.ofNat 32 c).toNat = 4294967295 ^^^ c := by
    rw [BitVec.toNat_xor, BitVec.toNat_ofNat, Nat.mod_eq_of_lt (by simpa using h)]
    rfl
  rw [← e, BitVec.allOnes_xor, BitVec.toNat_not, BitVec.toNat_ofNat, Nat.mod_eq_of_lt (by simpa using h)]
/-- The register behind more bytes. -/
def crcN (c : Nat) (l : List Int) : Nat := l.foldl (fun c x => stps 8 (c ^^^ x.toNat)) c
theorem byteStep {c x : Nat} (hc : c < 4294967296) (hx : x < 256) : stps 8 (c ^^^ x) = c / 256 ^^^ stps 8 ((c ^^^ x) % 256) := by
  rw [stps8_split]
  congr 1
  have : (c ^^^ x) / 2 ^ 8 = c / 2 ^ 8 ^^^ x / 2 ^ 8 := Nat.xor_div_two_pow
  rw [show (256 : Nat) = 2 ^ 8 from rfl, this, show x / 2 ^ 8 = 0 by omega, Nat.xor_zero]
theorem byte_lt {c x : Nat} (hc : c < 4294967296) (hx : x < 256) : stps 8 (c ^^^ x) < 4294967296 := stps_lt 8 (Nat.xor_lt_two_pow (n := 32) (by omega) (by omega))
theorem step_eq {c : Nat} (h : c < 4294967296) : crc_step.f (c : Int) = some ((stp c : Nat) : Int) := by
  unfold crc_step.f stp
  have h1 : Go.bits .and .u32 (c : Int) 1 = ((c % 2 : Nat) : Int) := by
    rw [show (1 : Int) = ((1 : Nat) : Int) from rfl, u32_and_nat c 1 h (by decide), nat_mask1]
  have h2 : Go.bits .xor .u32 ((c : Int) / 2) 2197175160 = ((c / 2 ^^^ 2197175160 : Nat) : Int) := by
    rw [show ((c : Int) / 2) = ((c / 2 : Nat) : Int) by omega, show (2197175160 : Int) = ((2197175160 : Nat) : Int) from rfl, u32_xor_nat _ _ (by omega) (by decide)]
  rw [h1, h2]
  by_cases e : c % 2 = 1
  · rw [if_pos (by omega), if_pos e]
  · rw [if_neg (by omega), if_neg e]
    rfl
theorem entry_l0 : ∀ (d i : Nat) {c : Nat}, c < 4294967296 → 8 - i = d → i ≤ 8 → Ev (fun k => crc_entry.l0 k (c : Int) (i : Int)) ((stps (8 - i) c : Nat) : Int) := by
  intro d
  induction d with
  | zero =>
    intro i c hc hd hi
    obtain rfl : i = 8 := by omega
    apply ev_succ
    simp only [crc_entry.l0, if_neg (show ¬ (((8 : Nat) : Int) < 8) by decide)]
    exact ev_some _
  | succ d ih =>
    intro i c hc hd hi
    have hw : wrap64 ((i : Int) + 1) = ((i + 1 : Nat) : Int) := by rw [w64 (by omega) (by omega)]; omega
    apply ev_succ
    simp only [crc_entry.l0, if_pos (show (i : Int) < 8 by omega), hw]
    refine ev_bind1 (step_eq hc) ?_
    refine ev_eq (ih (i + 1) (stp_lt hc) (by omega) (by omega)) ?_
    rw [show 8 - i = (8 - (i + 1)) + 1 by omega]
    rfl
theorem entry_ev {c : Nat} (hc : c < 4294967296) : Ev (fun k => crc_entry.f k (c : Int)) ((stps 8 c : Nat) : Int) := by
  unfold crc_entry.f
  have := entry_l0 8 0 hc (by omega) (by omega)
  simpa using this
theorem crcN_lt (l : List Int) (hl : Bytes l) : ∀ {c : Nat}, c < 4294967296 → crcN c l < 4294967296 := by
  induction l with
  | nil => exact fun h => h
  | cons x l ih =>
    intro c h
    have hx := hl x (by simp)
    exact ih (fun y hy => hl y (by simp [hy])) (byte_lt h (by omega))
theorem More_l0 (l : List Int) (hb : Bytes l) (hl : l.length ≤ 9000000000000000000) : ∀ (d i : Nat) {c : Nat}, c < 4294967296 → l.length - i = d → i ≤ l.length →
    Ev (fun k => crc_More.l0 k (c : Int) l (l.length : Int) (i : Int)) (4294967295 - (crcN c (l.drop i) : Int)) := by
  intro d
  induction d with
  | zero =>
    intro i c hc hd hi
    obtain rfl : i = l.length := by omega
    apply ev_succ
    simp only [crc_More.l0, if_neg (show ¬ ((l.length : Int) < (l.length : Int)) by omega)]
    refine ev_eq (ev_some _) ?_
    rw [show (4294967295 : Int) = ((4294967295 : Nat) : Int) from rfl, u32_xor_nat _ _ (by decide) hc, not32 hc, List.drop_length]
    show _ = ((4294967295 : Nat) : Int) - (c : Int)
    omega
  | succ d ih =>
    intro i c hc hd hi
    have hlt : i < l.length := by omega
    have hw : wrap64 ((i : Int) + 1) = ((i + 1 : Nat) : Int) := by rw [w64 (by omega) (by omega)]; omega
    have hx := hb _ (List.getElem_mem hlt)
    obtain ⟨x, ex⟩ := Int.eq_ofNat_of_zero_le hx.1
    have hx256 : x < 256 := by omega
    have hcx : c ^^^ x < 4294967296 := Nat.xor_lt_two_pow (n := 32) (by omega) (by omega)
    have e1 : Go.bits .and .u32 (Go.bits .xor .u32 (c : Int) ((rd l (i : Int)) % 4294967296)) 255 = (((c ^^^ x) % 256 : Nat) : Int) := by
      rw [rd_lt hlt, ex, show (x : Int) % 4294967296 = (x : Int) by omega, u32_xor_nat c x hc (by omega), show (255 : Int) = ((255 : Nat) : Int) from rfl, u32_and_nat _ _ hcx (by decide), nat_mask8]
    have e2 : Go.bits .xor .u32 ((c : Int) / 256) ((stps 8 ((c ^^^ x) % 256) : Nat) : Int) = ((stps 8 (c ^^^ x) : Nat) : Int) := by
      rw [show (c : Int) / 256 = ((c / 256 : Nat) : Int) by omega, u32_xor_nat _ _ (by omega) (stps_lt 8 (by omega)), byteStep hc hx256]
    apply ev_succ
    simp only [crc_More.l0, if_pos (show (i : Int) < (l.length : Int) by omega), if_pos (show (0 : Int) ≤ (i : Int) by omega), hw, e1]
    refine ev_bind (entry_ev (by omega)) ?_
    rw [e2]
    refine ev_eq (ih (i + 1) (byte_lt hc hx256) (by omega) (by omega)) ?_
    rw [List.drop_eq_getElem_cons hlt, ex]
    rfl
/-- The sum behind more bytes. -/
def sumS (sum : Int) (l : List Int) : Int := 4294967295 - (crcN (4294967295 - sum).toNat l : Int)
theorem More_ev (sum : Int) (l : List Int) (h0 : 0 ≤ sum) (h1 : sum ≤ 4294967295) (hb : Bytes l) (hl : l.length ≤ 9000000000000000000) : Ev (fun k => crc_More.f k sum l) (sumS sum l) := by
  unfold crc_More.f sumS
  obtain ⟨c, rfl⟩ := Int.eq_ofNat_of_zero_le h0
  have e : Go.bits .xor .u32 4294967295 (c : Int) = (((4294967295 - (c : Int)).toNat : Nat) : Int) := by
    rw [show (4294967295 : Int) = ((4294967295 : Nat) : Int) from rfl, u32_xor_nat _ _ (by decide) (by omega), not32 (by omega)]
    omega
  simp only [e]
  have := More_l0 l hb hl l.length 0 (c := (4294967295 - (c : Int)).toNat) (by omega) (by omega) (by omega)
  simpa using this
theorem sumS_range (sum : Int) (l : List Int) (h0 : 0 ≤ sum) (h1 : sum ≤ 4294967295) (hb : Bytes l) : 0 ≤ sumS sum l ∧ sumS sum l ≤ 4294967295 := by
  unfold sumS
  have := crcN_lt l hb (c := (4294967295 - sum).toNat) (by omega)
  omega
theorem Sum_ev (l : List Int) (hb : Bytes l) (hl : l.length ≤ 9000000000000000000) : Ev (fun k => crc_Sum.f k l) (sumS 0 l) := by
  unfold crc_Sum.f
  exact ev_bind (More_ev 0 l (by omega) (by omega) hb hl) (ev_some _)

theorem refMore_l1 (l : List Int) (j : Nat) (r : Int) : ∀ (d i : Nat) {c : Nat}, c < 4294967296 → 8 - i = d → i ≤ 8 →
    Ev (fun k => batonref07_More.l0 k l ((stps (8 - i) c : Nat) : Int) (wrap64 ((j : Int) + 1))) r → Ev (fun k => batonref07_More.l1 k l (c : Int) (j : Int) (i : Int)) r := by
  intro d
  induction d with
  | zero =>
    intro i c hc hd hi h
    obtain rfl : i = 8 := by omega
    apply ev_succ
    simp only [batonref07_More.l1, if_neg (show ¬ (((8 : Nat) : Int) < 8) by decide)]
    exact h
  | succ d ih =>
    intro i c hc hd hi h
    have hw : wrap64 ((i : Int) + 1) = ((i + 1 : Nat) : Int) := by rw [w64 (by omega) (by omega)]; omega
    have h2 : Int.tdiv (c : Int) 2 % 4294967296 = ((c / 2 : Nat) : Int) := by rw [Int.tdiv_eq_ediv_of_nonneg (Int.natCast_nonneg _)]; omega
    have h3 : Int.tmod (c : Int) 2 = ((c % 2 : Nat) : Int) := by rw [Int.tmod_eq_emod_of_nonneg (Int.natCast_nonneg _)]; omega
    have h4 : Go.bits .xor .u32 ((c / 2 : Nat) : Int) 2197175160 = ((c / 2 ^^^ 2197175160 : Nat) : Int) := by
      rw [show (2197175160 : Int) = ((2197175160 : Nat) : Int) from rfl, u32_xor_nat _ _ (by omega) (by decide)]
    rw [show 8 - i = (8 - (i + 1)) + 1 by omega] at h
    apply ev_succ
    simp only [batonref07_More.l1, if_pos (show (i : Int) < 8 by omega), hw, h2, h3, h4]
    by_cases e : c % 2 = 1
    · simp only [if_pos (show ((c % 2 : Nat) : Int) = 1 by omega)]
      have es : stp c = c / 2 ^^^ 2197175160 := by unfold stp; rw [if_pos e]
      rw [← es]
      exact ih (i + 1) (stp_lt hc) (by omega) (by omega) h
    · simp only [if_neg (show ¬ (((c % 2 : Nat) : Int) = 1) by omega)]
      have es : stp c = c / 2 := by unfold stp; rw [if_neg e]
      rw [← es]
      exact ih (i + 1) (stp_lt hc) (by omega) (by omega) h
theorem refMore_l0 (l : List Int) (hb : Bytes l) (hl : l.length ≤ 9000000000000000000) : ∀ (d i : Nat) {c : Nat}, c < 4294967296 → l.length - i = d → i ≤ l.length →
    Ev (fun k => batonref07_More.l0 k l (c : Int) (i : Int)) (4294967295 - (crcN c (l.drop i) : Int)) := by
  intro d
  induction d with
  | zero =>
    intro i c hc hd hi
    obtain rfl : i = l.length := by omega
    apply ev_succ
    simp only [batonref07_More.l0, if_neg (show ¬ ((l.length : Int) < (l.length : Int)) by omega)]
    refine ev_eq (ev_some _) ?_
    rw [List.drop_length]
    show _ = (4294967295 : Int) - (c : Int)
    omega
  | succ d ih =>
    intro i c hc hd hi
    have hlt : i < l.length := by omega
    have hw : wrap64 ((i : Int) + 1) = ((i + 1 : Nat) : Int) := by rw [w64 (by omega) (by omega)]; omega
    have hx := hb _ (List.getElem_mem hlt)
    obtain ⟨x, ex⟩ := Int.eq_ofNat_of_zero_le hx.1
    have hcx : c ^^^ x < 4294967296 := Nat.xor_lt_two_pow (n := 32) (by omega) (by omega)
    have e1 : Go.bits .xor .u32 (c : Int) ((rd l (i : Int)) % 4294967296) = ((c ^^^ x : Nat) : Int) := by
      rw [rd_lt hlt, ex, show (x : Int) % 4294967296 = (x : Int) by omega, u32_xor_nat c x hc (by omega)]
    apply ev_succ
    simp only [batonref07_More.l0, if_pos (show (i : Int) < (l.length : Int) by omega), if_pos (show (0 : Int) ≤ (i : Int) by omega), e1]
    refine refMore_l1 l i _ 8 0 hcx (by omega) (by omega) ?_
    rw [hw]
    refine ev_eq (ih (i + 1) (stps_lt 8 hcx) (by omega) (by omega)) ?_
    rw [List.drop_eq_getElem_cons hlt, ex]
    rfl
theorem refMore_ev (sum : Int) (l : List Int) (h0 : 0 ≤ sum) (h1 : sum ≤ 4294967295) (hb : Bytes l) (hl : l.length ≤ 9000000000000000000) : Ev (fun k => batonref07_More.f k sum l) (sumS sum l) := by
  unfold batonref07_More.f sumS
  have e : (4294967295 - sum) % 4294967296 = (((4294967295 - sum).toNat : Nat) : Int) := by omega
  simp only [e]
  have := refMore_l0 l hb hl l.length 0 (c := (4294967295 - sum).toNat) (by omega) (by omega) (by omega)
  simpa using this

theorem awake07 : batonlaw07_awake.f = some true := rfl

theorem stps_add (a b c : Nat) : stps (a + b) c = stps b (stps a c) := by
  induction a generalizing c with
  | zero => rw [Nat.zero_add]; rfl
  | succ a ih => rw [show a + 1 + b = (a + b) + 1 by omega]; exact ih (stp c)
/-- The words of a matrix, one for each bit: what becomes of a word. -/
def mulN (m : List Nat) (x : Nat) : Nat → Nat
  | 0 => 0
  | i + 1 => if x.testBit i = true then mulN m x i ^^^ m.getD i 0 else mulN m x i
def matN (j : Nat) : List Nat := (List.range 32).map fun i => stps (8 * j) (2 ^ i)
theorem matN_get (j i : Nat) (h : i < 32) : (matN j).getD i 0 = stps (8 * j) (2 ^ i) := by
  unfold matN
  simp [List.getD_eq_getElem?_getD, h]
theorem mulN_mat (j x : Nat) : ∀ n, n ≤ 32 → mulN (matN j) x n = stps (8 * j) (x % 2 ^ n) := by
  intro n
  induction n with
  | zero => intro _; simp only [mulN, Nat.pow_zero, Nat.mod_one]; exact (stps_of_zero _).symm
  | succ n ih =>
    intro h
    have e : x % 2 ^ (n + 1) = 2 ^ n * (x.testBit n).toNat ^^^ x % 2 ^ n := by
      rw [← join_xor n _ _ (Nat.mod_lt _ (Nat.two_pow_pos n)), Nat.mod_pow_succ, Nat.add_comm, Nat.testBit_eq_decide_div_mod_eq]
      congr 2
      have := Nat.mod_two_eq_zero_or_one (x / 2 ^ n)
      rcases this with h | h <;> rw [h] <;> rfl
    rw [e, stps_xor]
    simp only [mulN, ih (by omega), matN_get j n (by omega)]
    cases hb : x.testBit n with
    | true => simp [Nat.xor_comm]
    | false => simp [stps_of_zero]
theorem mul_mat (j x : Nat) (hx : x < 4294967296) : mulN (matN j) x 32 = stps (8 * j) x := by
  rw [mulN_mat j x 32 (by omega), Nat.mod_eq_of_lt (by simpa using hx)]
theorem matN_square (j i : Nat) (h : i < 32) : mulN (matN j) ((matN j).getD i 0) 32 = stps (8 * (2 * j)) (2 ^ i) := by
  have hl : 2 ^ i < 4294967296 := by
    have := Nat.pow_lt_pow_right (a := 2) (by decide) h
    simpa using this
  rw [matN_get j i h, mul_mat j _ (stps_lt _ hl), show 8 * (2 * j) = 8 * j + 8 * j by omega, stps_add]
/-- The register by so many bytes 0. -/
theorem crcN_zero (n c : Nat) : crcN c (List.replicate n 0) = stps (8 * n) c := by
  induction n generalizing c with
  | zero => rfl
  | succ n ih =>
    rw [List.replicate_succ, show 8 * (n + 1) = 8 + 8 * n by omega, stps_add]
    show crcN (stps 8 (c ^^^ (0 : Int).toNat)) _ = _
    rw [ih]
    simp
theorem crcN_lin (l : List Int) : ∀ c d, crcN (c ^^^ d) l = stps (8 * l.length) c ^^^ crcN d l := by
  induction l with
  | nil => intro c d; rfl
  | cons x l ih =>
    intro c d
    show crcN (stps 8 (c ^^^ d ^^^ x.toNat)) l = _ ^^^ crcN (stps 8 (d ^^^ x.toNat)) l
    rw [Nat.xor_assoc, stps_xor, ih, List.length_cons, show 8 * (l.length + 1) = 8 + 8 * l.length by omega, stps_add]
theorem crcN_append (c : Nat) (l r : List Int) : crcN c (l ++ r) = crcN (crcN c l) r := List.foldl_append ..
theorem sum_join (a b : List Int) (ha : Bytes a) (hb : Bytes b) : ((stps (8 * b.length) (sumS 0 a).toNat ^^^ (sumS 0 b).toNat : Nat) : Int) = sumS 0 (a ++ b) := by
  unfold sumS
  have la := crcN_lt a ha (c := 4294967295) (by decide)
  have lb := crcN_lt b hb (c := 4294967295) (by decide)
  have hab : Bytes (a ++ b) := fun x hx => (List.mem_append.1 hx).elim (ha x) (hb x)
  have lab := crcN_lt (a ++ b) hab (c := 4294967295) (by decide)
  simp only [show ((4294967295 : Int) - 0).toNat = 4294967295 from rfl]
  have ea : ((4294967295 : Int) - (crcN 4294967295 a : Int)).toNat = 4294967295 ^^^ crcN 4294967295 a := by rw [not32 la]; omega
  have eb : ((4294967295 : Int) - (crcN 4294967295 b : Int)).toNat = 4294967295 ^^^ crcN 4294967295 b := by rw [not32 lb]; omega
  have h1 : crcN 4294967295 (a ++ b) = stps (8 * b.length) (4294967295 ^^^ crcN 4294967295 a) ^^^ crcN 4294967295 b := by
    rw [crcN_append, ← crcN_lin, Nat.xor_comm (4294967295 ^^^ _), ← Nat.xor_assoc, Nat.xor_self, Nat.zero_xor]
  have lx := lab
  rw [ea, eb]
  have h2 : stps (8 * b.length) (4294967295 ^^^ crcN 4294967295 a) ^^^ (4294967295 ^^^ crcN 4294967295 b) = 4294967295 ^^^ crcN 4294967295 (a ++ b) := by
    rw [h1, ← Nat.xor_assoc, Nat.xor_comm _ 4294967295, Nat.xor_assoc]
  rw [h2, not32 lab]
  omega
theorem sum_zeros (s : Int) (h0 : 0 ≤ s) (h1 : s ≤ 4294967295) (n : Nat) : 4294967295 - ((stps (8 * n) (4294967295 - s).toNat : Nat) : Int) = sumS s (List.replicate n 0) := by
  unfold sumS
  rw [crcN_zero]

end Go.Proofs.Ytaiiegbhbadciaa.LF07J
