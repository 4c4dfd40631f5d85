/- Plain lemmas on the functions of this family (CodecBack): what each loop comes to. No condition. -/
import Derived.Test.YthcpfkkddfgamaaBase
import Derived.Test.YthcpfkkddfgamaaPF06Cx
namespace Go.Proofs.Ythcpfkkddfgamaa.LF06C
open Go.RowKit Go.Proofs.Ythcpfkkddfgamaa.Base Go.Proofs.YthcpfkkddfgamaaW.PrintWords Go.Proofs.YthcpfkkddfgamaaW.PrintMore Go.Proofs.Ythcpfkkddfgamaa.PF06C
set_option linter.unusedVariables false
set_option linter.unusedSimpArgs false

/-! ### batonref01 -/
theorem Same_l0 (a b : List Int) (h : a.length = b.length) (hl : a.length ≤ 9000000000000000000) : ∀ (d i : Nat), a.length - i = d → i ≤ a.length → Ev (fun k => batonref01_Same.l0 k a b (i : Int)) (decide (a.drop i = b.drop i)) := by
  intro d
  induction d with
  | zero =>
    intro i hd hi
    obtain rfl : i = a.length := by omega
    apply ev_succ
    simp only [batonref01_Same.l0, if_neg (show ¬ ((a.length : Int) < (a.length : Int)) by omega)]
    exact ev_eq (ev_some _) (by simp [h])
  | succ d ih =>
    intro i hd hi
    have hlt : i < a.length := by omega
    have hltb : i < b.length := by omega
    have hw : wrap64 ((i : Int) + 1) = ((i + 1 : Nat) : Int) := by rw [w64 (by omega) (by omega)]; omega
    apply ev_succ
    simp only [batonref01_Same.l0, if_pos (show (i : Int) < (a.length : Int) by omega), if_pos (show (0 : Int) ≤ (i : Int) by omega), if_pos (show (i : Int) < (b.length : Int) by omega), rd_lt hlt, rd_lt hltb, hw]
    have key : (a.drop i = b.drop i) ↔ (a[i] = b[i] ∧ a.drop (i + 1) = b.drop (i + 1)) := by
      rw [List.drop_eq_getElem_cons hlt, List.drop_eq_getElem_cons hltb]
      exact List.cons_eq_cons
    by_cases e : a[i] = b[i]
    · simp only [if_pos e]
      refine ev_eq (ih (i + 1) (by omega) (by omega)) ?_
      simp only [key, e, true_and]
    · simp only [if_neg e]
      refine ev_eq (ev_some _) ?_
      simp only [key, e, false_and, decide_false]
theorem Same_ev (a b : List Int) (hl : a.length ≤ 9000000000000000000) : Ev (fun k => batonref01_Same.f k a b) (decide (a = b)) := by
  unfold batonref01_Same.f
  by_cases h : a.length = b.length
  · simp only [if_pos (show (a.length : Int) = (b.length : Int) by omega)]
    exact ev_eq (Same_l0 a b h hl a.length 0 (by omega) (by omega)) (by simp)
  · simp only [if_neg (show ¬ ((a.length : Int) = (b.length : Int)) by omega)]
    exact ev_eq (ev_some _) (by simp; intro e; exact h (by rw [e]))

/-! ### numbers of seven bits a byte -/
def numF : Nat → Int → List Int
  | 0, n => [n]
  | f + 1, n => if n < 128 then [n] else (n % 128 + 128) :: numF f (n / 128)
def rn : List Int → Nat → Int → Int × List Int × Int
  | [], i, _ => (0, [], if 8 ≤ i then 5 else 4)
  | x :: t, i, acc => if 8 ≤ i then (0, x :: t, 5) else if x = 0 ∧ 0 < i then (0, t, 6) else if x < 128 then (acc + x * 2 ^ (7 * i), t, 0) else rn t (i + 1) (acc + (x - 128) * 2 ^ (7 * i))
theorem pow2_le {a b : Nat} (h : a ≤ b) : (2 : Int) ^ a ≤ 2 ^ b := by
  have e : ∀ n : Nat, (2 : Int) ^ n = ((2 ^ n : Nat) : Int) := fun n => by rw [Int.natCast_pow]; rfl
  rw [e, e]
  exact Int.ofNat_le.mpr (Nat.pow_le_pow_right (by decide) h)
theorem numF_len : ∀ (f : Nat) (n : Int), (numF f n).length ≤ f + 1
  | 0, n => by simp [numF]
  | f + 1, n => by
    unfold numF
    split
    · simp
    · have := numF_len f (n / 128)
      simp
      omega
theorem add_ok (l m : List Int) (h : l.length + m.length < 140737488355328) : codec_Writer_add.f l 0 m = some (l ++ m, 0) := by
  unfold codec_Writer_add.f
  rw [if_pos rfl, if_pos h]
theorem WNum_l0 : ∀ (f : Nat) (n : Int) (l : List Int), 0 ≤ n → n < 2 ^ (7 * (f + 1)) → f ≤ 7 → l.length + f ≤ 1000000000 → Ev (fun k => codec_Writer_Number.l0 k n l 0) (l ++ numF f n, 0) := by
  intro f
  induction f with
  | zero =>
    intro n l h0 h1 hf hl
    have h1' : n < 128 := by simpa using h1
    apply ev_succ
    simp only [codec_Writer_Number.l0, if_neg (show ¬ n ≥ 128 by omega)]
    rw [show n % 256 = n by omega, add_ok _ _ (by simp; omega)]
    exact ev_some _
  | succ f ih =>
    intro n l h0 h1 hf hl
    apply ev_succ
    by_cases c : n ≥ 128
    · have hp : (2 : Int) ^ (7 * (f + 1 + 1)) = 128 * 2 ^ (7 * (f + 1)) := by rw [show 7 * (f + 1 + 1) = 7 + 7 * (f + 1) by omega, Int.pow_add]; rfl
      have h1' : n / 128 < 2 ^ (7 * (f + 1)) := by rw [hp] at h1; omega
      have hb : n < 72057594037927936 := by
        refine Int.lt_of_lt_of_le h1 ?_
        exact pow2_le (b := 56) (by omega)
      have e1 : Int.tmod n 128 = n % 128 := Int.tmod_eq_emod_of_nonneg h0
      have e2 : Int.tdiv n 128 = n / 128 := Int.tdiv_eq_ediv_of_nonneg h0
      have e3 : wrap64 (n / 128) = n / 128 := w64 (by omega) (by omega)
      have e4 : (n % 128 % 256 + 128) % 256 = n % 128 + 128 := by omega
      simp only [codec_Writer_Number.l0, if_pos c, e1, e2, e3, e4]
      rw [add_ok _ _ (by simp; omega)]
      simp only [Option.bind_some]
      have h := ih (n / 128) (l ++ [n % 128 + 128]) (by omega) h1' (by omega) (by simp; omega)
      rw [List.append_assoc, List.singleton_append] at h
      unfold numF
      rw [if_neg (by omega)]
      exact h
    · simp only [codec_Writer_Number.l0, if_neg c]
      rw [show n % 256 = n by omega, add_ok _ _ (by simp; omega)]
      unfold numF
      rw [if_pos (by omega)]
      exact ev_some _
theorem WNum_ok (n : Int) (l : List Int) (h0 : 0 ≤ n) (h1 : n < 72057594037927936) (hl : l.length ≤ 900000000) : Ev (fun k => codec_Writer_Number.f k l 0 n) (l ++ numF 7 n, 0) := by
  unfold codec_Writer_Number.f
  simp only [if_neg (show ¬ n < 0 by omega), decide_eq_false (show ¬ n > 72057594037927935 by omega)]
  apply ev_succ
  simp only [codec_Writer_Number.j0, Bool.false_eq_true, if_false]
  exact WNum_l0 7 n l h0 (by simpa using h1) (by omega) (by omega)
theorem or_comm' (k : IntKind) (x y : Int) : Go.bits .or k x y = Go.bits .or k y x := by
  unfold Go.bits
  simp only [BitVec.or_comm]
theorem or_shl (i : Nat) (hi : i < 8) (acc v : Int) (h0 : 0 ≤ acc) (h1 : acc < 2 ^ (7 * i)) (v0 : 0 ≤ v) (v1 : v < 128) : Go.bits .or .i64 acc (shl .i64 v ((7 * i : Nat) : Int)) = acc + v * 2 ^ (7 * i) := by
  have hs : shl .i64 v ((7 * i : Nat) : Int) = v * 2 ^ (7 * i) := by
    unfold shl
    have e : min (((7 * i : Nat) : Int)).toNat IntKind.i64.bits = 7 * i := by
      show min _ 64 = _
      omega
    rw [e, IntKind.wrap_i64]
    have : i = 0 ∨ i = 1 ∨ i = 2 ∨ i = 3 ∨ i = 4 ∨ i = 5 ∨ i = 6 ∨ i = 7 := by omega
    rcases this with rfl | rfl | rfl | rfl | rfl | rfl | rfl | rfl <;> simp only [Nat.reduceMul, Int.reducePow] <;> omega
  rw [hs, or_comm', Int.add_comm]
  have hp : (2 : Int) ^ (7 * i) ≤ 562949953421312 := pow2_le (b := 49) (by omega)
  have hp0 : (0 : Int) < 2 ^ (7 * i) := Int.pow_pos (by decide)
  have hv : v * 2 ^ (7 * i) ≤ 127 * 2 ^ (7 * i) := Int.mul_le_mul_of_nonneg_right (by omega) (by omega)
  have hv0 : 0 ≤ v * 2 ^ (7 * i) := Int.mul_nonneg v0 (by omega)
  refine bits_join .i64 63 (by decide) (fun n h0 h1 => ?_) (7 * i) _ _ hv0 (Int.mul_emod_left _ _) ?_ h0 h1 ?_
  · rw [IntKind.wrap_i64]
    have h1' : n < 9223372036854775808 := by simpa using h1
    omega
  · show _ < (9223372036854775808 : Int)
    generalize v * 2 ^ (7 * i) = z at *
    generalize (2 : Int) ^ (7 * i) = p at *
    omega
  · show _ < (9223372036854775808 : Int)
    generalize (2 : Int) ^ (7 * i) = p at *
    omega
theorem and_u8_127 (x : Int) (h0 : 0 ≤ x) (h1 : x ≤ 255) : Go.bits .and .u8 x 127 = x % 128 := by
  unfold Go.bits
  have h : (BitVec.ofInt IntKind.u8.bits x &&& BitVec.ofInt IntKind.u8.bits 127).toNat = (x % 128).toNat := by
    show (BitVec.ofInt 8 x &&& BitVec.ofInt 8 127).toNat = (x % 128).toNat
    have h127 : (BitVec.ofInt 8 127).toNat = 2 ^ 7 - 1 := by decide
    rw [BitVec.toNat_and, h127, Nat.and_two_pow_sub_one_eq_mod, BitVec.toNat_ofInt]
    omega
  simp only [h]
  rw [IntKind.wrap_u8]
  omega
theorem take_ok (x : Int) (t : List Int) : codec_Reader_take.f (x :: t) 0 1 = some ([x], true, t, 0) := by
  unfold codec_Reader_take.f
  rw [if_pos rfl, if_neg (by simp only [List.length_cons]; omega), if_pos (by omega), if_pos (by simp only [List.length_cons]; omega)]
  rfl
theorem take_end : codec_Reader_take.f [] 0 1 = some ([], false, [], 4) := rfl
theorem RNum_l0 : ∀ (l : List Int) (i : Nat) (acc : Int), Bytes l → i ≤ 8 → 0 ≤ acc → acc < 2 ^ (7 * i) → Ev (fun k => codec_Reader_Number.l0 k acc (i : Int) l 0) (rn l i acc) := by
  intro l
  induction l with
  | nil =>
    intro i acc hl hi h0 h1
    apply ev_succ
    by_cases c : (i : Int) < 8
    · simp only [codec_Reader_Number.l0, if_pos c, take_end, Option.bind_some, Bool.false_eq_true, if_false]
      unfold rn
      rw [if_neg (by omega)]
      exact ev_some _
    · simp only [codec_Reader_Number.l0, if_neg c]
      unfold rn codec_Reader_Fail.f
      rw [if_pos (show 8 ≤ i by omega), if_pos rfl]
      exact ev_some _
  | cons x t ih =>
    intro i acc hl hi h0 h1
    have hx := hl x (by simp)
    apply ev_succ
    by_cases c : (i : Int) < 8
    · have hw : wrap64 ((i : Int) + 1) = ((i + 1 : Nat) : Int) := by rw [w64 (by omega) (by omega)]; omega
      have h7 : IntKind.u64.wrap (wrap64 (7 * (i : Int))) = ((7 * i : Nat) : Int) := by rw [w64 (by omega) (by omega), u64 (by omega) (by omega)]; omega
      have hand : wrap64 (Go.bits .and .u8 x 127) = x % 128 := by rw [and_u8_127 x hx.1 hx.2, w64 (by omega) (by omega)]
      have hor := or_shl i (by omega) acc (x % 128) h0 h1 (by omega) (by omega)
      have hr : rd [x] 0 = x := rfl
      have h1l : ((0 : Int) < (([x] : List Int).length : Int)) := by simp
      have key : Ev (fun k => codec_Reader_Number.j1 k acc (i : Int) [x] (i : Int) false t 0) (if x < 128 then (acc + x * 2 ^ (7 * i), t, 0) else rn t (i + 1) (acc + (x - 128) * 2 ^ (7 * i))) := by
        apply ev_succ
        simp only [codec_Reader_Number.j1, Bool.false_eq_true, if_false, if_pos h1l, hr, h7, hand, hor, hw, if_pos (show (0 : Int) ≤ ((7 * i : Nat) : Int) by omega)]
        by_cases c2 : x < 128
        · simp only [if_pos c2]
          rw [show x % 128 = x by omega]
          exact ev_some _
        · simp only [if_neg c2]
          rw [show x % 128 = x - 128 by omega]
          refine ih (i + 1) _ (fun y hy => hl y (by simp [hy])) (by omega) ?_ ?_
          · have : (0 : Int) ≤ (x - 128) * 2 ^ (7 * i) := Int.mul_nonneg (by omega) (Int.le_of_lt (Int.pow_pos (by decide)))
            omega
          · have hp : (2 : Int) ^ (7 * (i + 1)) = 128 * 2 ^ (7 * i) := by rw [show 7 * (i + 1) = 7 + 7 * i by omega, Int.pow_add]; rfl
            have hp0 : (0 : Int) < 2 ^ (7 * i) := Int.pow_pos (by decide)
            have hv : (x - 128) * 2 ^ (7 * i) ≤ 127 * 2 ^ (7 * i) := Int.mul_le_mul_of_nonneg_right (by omega) (by omega)
            rw [hp]
            omega
      simp only [codec_Reader_Number.l0, if_pos c, take_ok, Option.bind_some, if_true, hr, if_pos h1l]
      unfold rn
      rw [if_neg (show ¬ 8 ≤ i by omega)]
      by_cases c0 : x = 0
      · simp only [if_pos c0]
        by_cases ci : 0 < i
        · rw [if_pos ⟨c0, ci⟩]
          apply ev_succ
          simp only [codec_Reader_Number.j1, decide_eq_true (show (i : Int) > 0 by omega), if_true]
          exact ev_some _
        · rw [if_neg (fun h => ci h.2), decide_eq_false (show ¬ (i : Int) > 0 by omega)]
          exact key
      · simp only [if_neg c0]
        rw [if_neg (fun h => c0 h.1)]
        exact key
    · simp only [codec_Reader_Number.l0, if_neg c]
      unfold rn codec_Reader_Fail.f
      rw [if_pos (show 8 ≤ i by omega), if_pos rfl]
      exact ev_some _
theorem RNum_ok (l : List Int) (hl : Bytes l) : Ev (fun k => codec_Reader_Number.f k l 0) (rn l 0 0) := by
  unfold codec_Reader_Number.f
  exact RNum_l0 l 0 0 hl (by omega) (by omega) (by simp)
theorem Bytes_ok (l : List Int) (h : l.length < 1000000000) : codec_Writer_Bytes.f l 0 = some (l, 0, l, 0) := by
  unfold codec_Writer_Bytes.f
  rw [if_pos rfl]
  simp only [Option.bind_some]
  rw [if_pos (by simp; omega)]
  rfl
theorem NewR_ok (l : List Int) (h : l.length < 1000000000) : codec_NewReader.f l = some (l, 0) := by
  unfold codec_NewReader.f
  simp only [Option.bind_some]
  rw [if_pos (by simp; omega)]
  rfl

/-- What is read as a number, with nothing left, is the number's. -/
theorem rn_one : ∀ (l : List Int) (i : Nat) (acc n : Int), Bytes l → i ≤ 7 → rn l i acc = (n, [], 0) → ∃ m : Int, n = acc + m * 2 ^ (7 * i) ∧ 0 ≤ m ∧ m < 2 ^ (7 * (8 - i)) ∧ (0 < i → 0 < m) ∧ numF (7 - i) m = l := by
  intro l
  induction l with
  | nil =>
    intro i acc n hl hi h
    unfold rn at h
    rw [if_neg (by omega)] at h
    simp at h
  | cons x t ih =>
    intro i acc n hl hi h
    have hx := hl x (by simp)
    unfold rn at h
    rw [if_neg (by omega)] at h
    have hp0 : (128 : Int) ≤ 2 ^ (7 * (8 - i)) := pow2_le (a := 7) (by omega)
    by_cases c0 : x = 0 ∧ 0 < i
    · rw [if_pos c0] at h
      simp at h
    · rw [if_neg c0] at h
      by_cases c1 : x < 128
      · rw [if_pos c1] at h
        simp only [Prod.mk.injEq, and_true] at h
        obtain ⟨h, rfl⟩ := h
        refine ⟨x, h.symm, hx.1, by omega, fun hi0 => ?_, ?_⟩
        · rcases Int.lt_or_eq_of_le hx.1 with h2 | h2
          · exact h2
          · exact absurd ⟨h2.symm, hi0⟩ c0
        · cases h7 : 7 - i with
          | zero => rfl
          | succ f => unfold numF; rw [if_pos c1]
      · rw [if_neg c1] at h
        by_cases c7 : i = 7
        · subst c7
          cases t with
          | nil =>
            unfold rn at h
            simp at h
          | cons y t =>
            unfold rn at h
            simp at h
        · obtain ⟨m, e, h0, h1, h2, h3⟩ := ih (i + 1) _ n (fun y hy => hl y (by simp [hy])) (by omega) h
          have hm := h2 (by omega)
          have hpe : (2 : Int) ^ (7 * (i + 1)) = 128 * 2 ^ (7 * i) := by rw [show 7 * (i + 1) = 7 + 7 * i by omega, Int.pow_add]; rfl
          have hpf : (2 : Int) ^ (7 * (8 - i)) = 128 * 2 ^ (7 * (8 - (i + 1))) := by rw [show 7 * (8 - i) = 7 + 7 * (8 - (i + 1)) by omega, Int.pow_add]; rfl
          refine ⟨(x - 128) + 128 * m, ?_, by omega, by rw [hpf]; omega, fun _ => by omega, ?_⟩
          · rw [e, hpe, Int.add_mul, Int.add_assoc, Int.mul_comm 128 m, Int.mul_assoc m 128]
          · rw [show 7 - i = (7 - (i + 1)) + 1 by omega]
            unfold numF
            rw [if_neg (by omega), show (x - 128 + 128 * m) % 128 + 128 = x by omega, show (x - 128 + 128 * m) / 128 = m by omega, h3]
theorem awake06 : Ev (fun k => batonlaw06_awake.f k) true := Ev.of (fun k => batonlaw06_awake.mono k) (k := 40) (by decide +kernel)

end Go.Proofs.Ythcpfkkddfgamaa.LF06C
