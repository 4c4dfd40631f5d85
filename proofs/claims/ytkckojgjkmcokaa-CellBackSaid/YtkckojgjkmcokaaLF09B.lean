/- Plain lemmas on the functions of this family (CellBack): what each loop comes to. No condition. -/
import Derived.Test.YtkckojgjkmcokaaBase
import Derived.Test.YtkckojgjkmcokaaPF09Bx
namespace Go.Proofs.Ytkckojgjkmcokaa.LF09B
open Go.RowKit Go.Proofs.Ytkckojgjkmcokaa.Base Go.Proofs.YtkckojgjkmcokaaW.PrintWords Go.Proofs.YtkckojgjkmcokaaW.PrintMore Go.Proofs.Ytkckojgjkmcokaa.PF09B
set_option linter.unusedVariables false
set_option linter.unusedSimpArgs false

/-! ### batonref01 -/
theorem Same_l0 (a b : List Int) (h : a.length = b.length) (hl : a.length ≤ 9000000000000000000) : ∀ (d i : Nat), a.length - i = d → i ≤ a.length → Ev (fun k => batonref01_Same.l0 k a b (i : Int)) (decide (a.drop i = b.drop i)) := by
  intro d
  induction d with
  | zero =>
    intro i hd hi
    obtain rfl : i = a.length := by omega
    apply ev_succ
    simp only [batonref01_Same.l0, if_neg (show ¬ ((a.length : Int) < (a.length : Int)) by omega)]
    exact ev_eq (ev_some _) (by simp [h])
  | succ d ih =>
    intro i hd hi
    have hlt : i < a.length := by omega
    have hltb : i < b.length := by omega
    have hw : wrap64 ((i : Int) + 1) = ((i + 1 : Nat) : Int) := by rw [w64 (by omega) (by omega)]; omega
    apply ev_succ
    simp only [batonref01_Same.l0, if_pos (show (i : Int) < (a.length : Int) by omega), if_pos (show (0 : Int) ≤ (i : Int) by omega), if_pos (show (i : Int) < (b.length : Int) by omega), rd_lt hlt, rd_lt hltb, hw]
    have key : (a.drop i = b.drop i) ↔ (a[i] = b[i] ∧ a.drop (i + 1) = b.drop (i + 1)) := by
      rw [List.drop_eq_getElem_cons hlt, List.drop_eq_getElem_cons hltb]
      exact List.cons_eq_cons
    by_cases e : a[i] = b[i]
    · simp only [if_pos e]
      refine ev_eq (ih (i + 1) (by omega) (by omega)) ?_
      simp only [key, e, true_and]
    · simp only [if_neg e]
      refine ev_eq (ev_some _) ?_
      simp only [key, e, false_and, decide_false]
theorem Same_ev (a b : List Int) (hl : a.length ≤ 9000000000000000000) : Ev (fun k => batonref01_Same.f k a b) (decide (a = b)) := by
  unfold batonref01_Same.f
  by_cases h : a.length = b.length
  · simp only [if_pos (show (a.length : Int) = (b.length : Int) by omega)]
    exact ev_eq (Same_l0 a b h hl a.length 0 (by omega) (by omega)) (by simp)
  · simp only [if_neg (show ¬ ((a.length : Int) = (b.length : Int)) by omega)]
    exact ev_eq (ev_some _) (by simp; intro e; exact h (by rw [e]))

/-! ### numbers of seven bits a byte -/
def numF : Nat → Int → List Int
  | 0, n => [n]
  | f + 1, n => if n < 128 then [n] else (n % 128 + 128) :: numF f (n / 128)
def rn : List Int → Nat → Int → Int × List Int × Int
  | [], i, _ => (0, [], if 8 ≤ i then 5 else 4)
  | x :: t, i, acc => if 8 ≤ i then (0, x :: t, 5) else if x = 0 ∧ 0 < i then (0, t, 6) else if x < 128 then (acc + x * 2 ^ (7 * i), t, 0) else rn t (i + 1) (acc + (x - 128) * 2 ^ (7 * i))
theorem pow2_le {a b : Nat} (h : a ≤ b) : (2 : Int) ^ a ≤ 2 ^ b := by
  have e : ∀ n : Nat, (2 : Int) ^ n = ((2 ^ n : Nat) : Int) := fun n => by rw [Int.natCast_pow]; rfl
  rw [e, e]
  exact Int.ofNat_le.mpr (Nat.pow_le_pow_right (by decide) h)
theorem numF_len : ∀ (f : Nat) (n : Int), (numF f n).length ≤ f + 1
  | 0, n => by simp [numF]
  | f + 1, n => by
    unfold numF
    split
    · simp
    · have := numF_len f (n / 128)
      simp
      omega
theorem add_ok (l m : List Int) (h : l.length + m.length < 140737488355328) : codec_Writer_add.f l 0 m = some (l ++ m, 0) := by
  unfold codec_Writer_add.f
  rw [if_pos rfl, if_pos h]
theorem WNum_l0 : ∀ (f : Nat) (n : Int) (l : List Int), 0 ≤ n → n < 2 ^ (7 * (f + 1)) → f ≤ 7 → l.length + f ≤ 1000000000 → Ev (fun k => codec_Writer_Number.l0 k n l 0) (l ++ numF f n, 0) := by
  intro f
  induction f with
  | zero =>
    intro n l h0 h1 hf hl
    have h1' : n < 128 := by simpa using h1
    apply ev_succ
    simp only [codec_Writer_Number.l0, if_neg (show ¬ n ≥ 128 by omega)]
    rw [show n % 256 = n by omega, add_ok _ _ (by simp; omega)]
    exact ev_some _
  | succ f ih =>
    intro n l h0 h1 hf hl
    apply ev_succ
    by_cases c : n ≥ 128
    · have hp : (2 : Int) ^ (7 * (f + 1 + 1)) = 128 * 2 ^ (7 * (f + 1)) := by rw [show 7 * (f + 1 + 1) = 7 + 7 * (f + 1) by omega, Int.pow_add]; rfl
      have h1' : n / 128 < 2 ^ (7 * (f + 1)) := by rw [hp] at h1; omega
      have hb : n < 72057594037927936 := by
        refine Int.lt_of_lt_of_le h1 ?_
        exact pow2_le (b := 56) (by omega)
      have e1 : Int.tmod n 128 = n % 128 := Int.tmod_eq_emod_of_nonneg h0
      have e2 : Int.tdiv n 128 = n / 128 := Int.tdiv_eq_ediv_of_nonneg h0
      have e3 : wrap64 (n / 128) = n / 128 := w64 (by omega) (by omega)
      have e4 : (n % 128 % 256 + 128) % 256 = n % 128 + 128 := by omega
      simp only [codec_Writer_Number.l0, if_pos c, e1, e2, e3, e4]
      rw [add_ok _ _ (by simp; omega)]
      simp only [Option.bind_some]
      have h := ih (n / 128) (l ++ [n % 128 + 128]) (by omega) h1' (by omega) (by simp; omega)
      rw [List.append_assoc, List.singleton_append] at h
      unfold numF
      rw [if_neg (by omega)]
      exact h
    · simp only [codec_Writer_Number.l0, if_neg c]
      rw [show n % 256 = n by omega, add_ok _ _ (by simp; omega)]
      unfold numF
      rw [if_pos (by omega)]
      exact ev_some _
theorem WNum_ok (n : Int) (l : List Int) (h0 : 0 ≤ n) (h1 : n < 72057594037927936) (hl : l.length ≤ 900000000) : Ev (fun k => codec_Writer_Number.f k l 0 n) (l ++ numF 7 n, 0) := by
  unfold codec_Writer_Number.f
  simp only [if_neg (show ¬ n < 0 by omega), decide_eq_false (show ¬ n > 72057594037927935 by omega)]
  apply ev_succ
  simp only [codec_Writer_Number.j0, Bool.false_eq_true, if_false]
  exact WNum_l0 7 n l h0 (by simpa using h1) (by omega) (by omega)
theorem or_comm' (k : IntKind) (x y : Int) : Go.bits .or k x y = Go.bits .or k y x := by
  unfold Go.bits
  simp only [BitVec.or_comm]
theorem or_shl (i : Nat) (hi : i < 8) (acc v : Int) (h0 : 0 ≤ acc) (h1 : acc < 2 ^ (7 * i)) (v0 : 0 ≤ v) (v1 : v < 128) : Go.bits .or .i64 acc (shl .i64 v ((7 * i : Nat) : Int)) = acc + v * 2 ^ (7 * i) := by
  have hs : shl .i64 v ((7 * i : Nat) : Int) = v * 2 ^ (7 * i) := by
    unfold shl
    have e : min (((7 * i : Nat) : Int)).toNat IntKind.i64.bits = 7 * i := by
      show min _ 64 = _
      omega
    rw [e, IntKind.wrap_i64]
    have : i = 0 ∨ i = 1 ∨ i = 2 ∨ i = 3 ∨ i = 4 ∨ i = 5 ∨ i = 6 ∨ i = 7 := by omega
    rcases this with rfl | rfl | rfl | rfl | rfl | rfl | rfl | rfl <;> simp only [Nat.reduceMul, Int.reducePow] <;> omega
  rw [hs, or_comm', Int.add_comm]
  have hp : (2 : Int) ^ (7 * i) ≤ 562949953421312 := pow2_le (b := 49) (by omega)
  have hp0 : (0 : Int) < 2 ^ (7 * i) := Int.pow_pos (by decide)
  have hv : v * 2 ^ (7 * i) ≤ 127 * 2 ^ (7 * i) := Int.mul_le_mul_of_nonneg_right (by omega) (by omega)
  have hv0 : 0 ≤ v * 2 ^ (7 * i) := Int.mul_nonneg v0 (by omega)
  refine bits_join .i64 63 (by decide) (fun n h0 h1 => ?_) (7 * i) _ _ hv0 (Int.mul_emod_left _ _) ?_ h0 h1 ?_
  · rw [IntKind.wrap_i64]
    have h1' : n < 9223372036854775808 := by simpa using h1
    omega
  · show _ < (9223372036854775808 : Int)
    generalize v * 2 ^ (7 * i) = z at *
    generalize (2 : Int) ^ (7 * i) = p at *
    omega
  · show _ < (9223372036854775808 : Int)
    generalize (2 : Int) ^ (7 * i) = p at *
    omega
theorem and_u8_127 (x : Int) (h0 : 0 ≤ x) (h1 : x ≤ 255) : Go.bits .and .u8 x 127 = x % 128 := by
  unfold Go.bits
  have h : (BitVec.ofInt IntKind.u8.bits x &&& BitVec.ofInt IntKind.u8.bits 127).toNat = (x % 128).toNat := by
    show (BitVec.ofInt 8 x &&& BitVec.ofInt 8 127).toNat = (x % 128).toNat
    have h127 : (BitVec.ofInt 8 127).toNat = 2 ^ 7 - 1 := by decide
    rw [BitVec.toNat_and, h127, Nat.and_two_pow_sub_one_eq_mod, BitVec.toNat_ofInt]
    omega
  simp only [h]
  rw [IntKind.wrap_u8]
  omega
theorem take_ok (x : Int) (t : List Int) : codec_Reader_take.f (x :: t) 0 1 = some ([x], true, t, 0) := by
  unfold codec_Reader_take.f
  rw [if_pos rfl, if_neg (by simp only [List.length_cons]; omega), if_pos (by omega), if_pos (by simp only [List.length_cons]; omega)]
  rfl
theorem take_end : codec_Reader_take.f [] 0 1 = some ([], false, [], 4) := rfl
theorem RNum_l0 : ∀ (l : List Int) (i : Nat) (acc : Int), Bytes l → i ≤ 8 → 0 ≤ acc → acc < 2 ^ (7 * i) → Ev (fun k => codec_Reader_Number.l0 k acc (i : Int) l 0) (rn l i acc) := by
  intro l
  induction l with
  | nil =>
    intro i acc hl hi h0 h1
    apply ev_succ
    by_cases c : (i : Int) < 8
    · simp only [codec_Reader_Number.l0, if_pos c, take_end, Option.bind_some, Bool.false_eq_true, if_false]
      unfold rn
      rw [if_neg (by omega)]
      exact ev_some _
    · simp only [codec_Reader_Number.l0, if_neg c]
      unfold rn codec_Reader_Fail.f
      rw [if_pos (show 8 ≤ i by omega), if_pos rfl]
      exact ev_some _
  | cons x t ih =>
    intro i acc hl hi h0 h1
    have hx := hl x (by simp)
    apply ev_succ
    by_cases c : (i : Int) < 8
    · have hw : wrap64 ((i : Int) + 1) = ((i + 1 : Nat) : Int) := by rw [w64 (by omega) (by omega)]; omega
      have h7 : IntKind.u64.wrap (wrap64 (7 * (i : Int))) = ((7 * i : Nat) : Int) := by rw [w64 (by omega) (by omega), u64 (by omega) (by omega)]; omega
      have hand : wrap64 (Go.bits .and .u8 x 127) = x % 128 := by rw [and_u8_127 x hx.1 hx.2, w64 (by omega) (by omega)]
      have hor := or_shl i (by omega) acc (x % 128) h0 h1 (by omega) (by omega)
      have hr : rd [x] 0 = x := rfl
      have h1l : ((0 : Int) < (([x] : List Int).length : Int)) := by simp
      have key : Ev (fun k => codec_Reader_Number.j1 k acc (i : Int) [x] (i : Int) false t 0) (if x < 128 then (acc + x * 2 ^ (7 * i), t, 0) else rn t (i + 1) (acc + (x - 128) * 2 ^ (7 * i))) := by
        apply ev_succ
        simp only [codec_Reader_Number.j1, Bool.false_eq_true, if_false, if_pos h1l, hr, h7, hand, hor, hw, if_pos (show (0 : Int) ≤ ((7 * i : Nat) : Int) by omega)]
        by_cases c2 : x < 128
        · simp only [if_pos c2]
          rw [show x % 128 = x by omega]
          exact ev_some _
        · simp only [if_neg c2]
          rw [show x % 128 = x - 128 by omega]
          refine ih (i + 1) _ (fun y hy => hl y (by simp [hy])) (by omega) ?_ ?_
          · have : (0 : Int) ≤ (x - 128) * 2 ^ (7 * i) := Int.mul_nonneg (by omega) (Int.le_of_lt (Int.pow_pos (by decide)))
            omega
          · have hp : (2 : Int) ^ (7 * (i + 1)) = 128 * 2 ^ (7 * i) := by rw [show 7 * (i + 1) = 7 + 7 * i by omega, Int.pow_add]; rfl
            have hp0 : (0 : Int) < 2 ^ (7 * i) := Int.pow_pos (by decide)
            have hv : (x - 128) * 2 ^ (7 * i) ≤ 127 * 2 ^ (7 * i) := Int.mul_le_mul_of_nonneg_right (by omega) (by omega)
            rw [hp]
            omega
      simp only [codec_Reader_Number.l0, if_pos c, take_ok, Option.bind_some, if_true, hr, if_pos h1l]
      unfold rn
      rw [if_neg (show ¬ 8 ≤ i by omega)]
      by_cases c0 : x = 0
      · simp only [if_pos c0]
        by_cases ci : 0 < i
        · rw [if_pos ⟨c0, ci⟩]
          apply ev_succ
          simp only [codec_Reader_Number.j1, decide_eq_true (show (i : Int) > 0 by omega), if_true]
          exact ev_some _
        · rw [if_neg (fun h => ci h.2), decide_eq_false (show ¬ (i : Int) > 0 by omega)]
          exact key
      · simp only [if_neg c0]
        rw [if_neg (fun h => c0 h.1)]
        exact key
    · simp only [codec_Reader_Number.l0, if_neg c]
      unfold rn codec_Reader_Fail.f
      rw [if_pos (show 8 ≤ i by omega), if_pos rfl]
      exact ev_some _
theorem RNum_ok (l : List Int) (hl : Bytes l) : Ev (fun k => codec_Reader_Number.f k l 0) (rn l 0 0) := by
  unfold codec_Reader_Number.f
  exact RNum_l0 l 0 0 hl (by omega) (by omega) (by simp)
theorem Bytes_ok (l : List Int) (h : l.length < 1000000000) : codec_Writer_Bytes.f l 0 = some (l, 0, l, 0) := by
  unfold codec_Writer_Bytes.f
  rw [if_pos rfl]
  simp only [Option.bind_some]
  rw [if_pos (by simp; omega)]
  rfl
theorem NewR_ok (l : List Int) (h : l.length < 1000000000) : codec_NewReader.f l = some (l, 0) := by
  unfold codec_NewReader.f
  simp only [Option.bind_some]
  rw [if_pos (by simp; omega)]
  rfl

/-! ### cells and runs of cells -/
theorem rd53 (l : List S53) (i : Nat) (h : i < l.length) : rd_T53 l (i : Int) = l[i] := by
  unfold rd_T53
  simp [List.getD_eq_getElem?_getD, h]
theorem eqc (a b : S53) : (a.f0 == b.f0 && (a.f1.f0 == b.f1.f0 && (a.f1.f1 == b.f1.f1 && (a.f1.f2 == b.f1.f2)))) = true ↔ a = b := by
  obtain ⟨a0, a1, a2, a3⟩ := a
  obtain ⟨b0, b1, b2, b3⟩ := b
  simp
theorem eqc_ne {a b : S53} (h : a ≠ b) : (a.f0 == b.f0 && (a.f1.f0 == b.f1.f0 && (a.f1.f1 == b.f1.f1 && (a.f1.f2 == b.f1.f2)))) = false := Bool.eq_false_iff.2 (fun e => h ((eqc a b).1 e))
theorem neqc (a b : S53) : (!(a.f0 == b.f0) || (!(a.f1.f0 == b.f1.f0) || (!(a.f1.f1 == b.f1.f1) || !(a.f1.f2 == b.f1.f2)))) = true ↔ a ≠ b := by
  rw [← Bool.not_and, ← Bool.not_and, ← Bool.not_and, Bool.not_eq_true', Bool.eq_false_iff]
  exact not_congr (eqc a b)
theorem neqc_self (a : S53) : (!(a.f0 == a.f0) || (!(a.f1.f0 == a.f1.f0) || (!(a.f1.f1 == a.f1.f1) || !(a.f1.f2 == a.f1.f2)))) = false := by simp
theorem awake09_runs : cell_Runs.f 8 [(⟨97, (⟨0, 0, 0⟩ : S51)⟩ : S53), (⟨97, (⟨0, 0, 0⟩ : S51)⟩ : S53), (⟨98, (⟨0, 0, 0⟩ : S51)⟩ : S53)] = some [(⟨2,(⟨97, (⟨0, 0, 0⟩ : S51)⟩ : S53)⟩ : S55), (⟨1, (⟨98, (⟨0, 0, 0⟩ : S51)⟩ : S53)⟩ : S55)] := by
  simp [cell_Runs.f, cell_Runs.l0, rd_T53, rd_T55, wrap64]
theorem awake09 : Ev (fun k => batonlaw09_awake.f k) true := Ev.of (fun k => batonlaw09_awake.mono k) (k := 8) (by unfold batonlaw09_awake.f; rw [awake09_runs]; decide)

theorem CSame_l0 (a : List S53) (hl : a.length ≤ 9000000000000000000) : ∀ (d i : Nat), a.length - i = d → i ≤ a.length → Ev (fun k => batonref09_Same.l0 k a a (i : Int)) true := by
  intro d
  induction d with
  | zero =>
    intro i hd hi
    obtain rfl : i = a.length := by omega
    apply ev_succ
    simp only [batonref09_Same.l0, if_neg (show ¬ ((a.length : Int) < (a.length : Int)) by omega)]
    exact ev_some _
  | succ d ih =>
    intro i hd hi
    have hlt : i < a.length := by omega
    have hw : wrap64 ((i : Int) + 1) = ((i + 1 : Nat) : Int) := by rw [w64 (by omega) (by omega)]; omega
    apply ev_succ
    simp only [batonref09_Same.l0, if_pos (show (i : Int) < (a.length : Int) by omega), if_pos (show (0 : Int) ≤ (i : Int) by omega), rd53 a i hlt, hw, neqc_self, Bool.false_eq_true, if_false]
    exact ih (i + 1) (by omega) (by omega)
theorem CSame_ev (a : List S53) (hl : a.length ≤ 9000000000000000000) : Ev (fun k => batonref09_Same.f k a a) true := by
  unfold batonref09_Same.f
  simp only [if_true]
  exact CSame_l0 a hl a.length 0 (by omega) (by omega)

/-! ### signs: the document's answer -/
def lo3 (a : Int) : Int := if a = 224 then 160 else 128
def hi3 (a : Int) : Int := if a = 237 then 159 else 191
def lo4 (a : Int) : Int := if a = 240 then 144 else 128
def hi4 (a : Int) : Int := if a = 244 then 143 else 191
def sign (c : Int) : Prop := 0 ≤ c ∧ c ≤ 1114111 ∧ (c < 55296 ∨ c > 57343)
instance (c : Int) : Decidable (sign c) := by unfold sign; infer_instance
def enc (c : Int) : List Int :=
  if c < 128 then [c] else if c < 2048 then [192 + c / 64, 128 + c % 64] else if c < 65536 then [224 + c / 4096, 128 + c / 64 % 64, 128 + c % 64]
  else [240 + c / 262144, 128 + c / 4096 % 64, 128 + c / 64 % 64, 128 + c % 64]
/-- Are bytes a sign? -/
def wh : List Int → Prop
  | [a] => a < 128
  | [a, b] => 194 ≤ a ∧ a ≤ 223 ∧ 128 ≤ b ∧ b ≤ 191
  | [a, b, c] => 224 ≤ a ∧ a ≤ 239 ∧ lo3 a ≤ b ∧ b ≤ hi3 a ∧ 128 ≤ c ∧ c ≤ 191
  | [a, b, c, d] => 240 ≤ a ∧ a ≤ 244 ∧ lo4 a ≤ b ∧ b ≤ hi4 a ∧ 128 ≤ c ∧ c ≤ 191 ∧ 128 ≤ d ∧ d ≤ 191
  | _ => False
instance : (x : List Int) → Decidable (wh x)
  | [] => isFalse id
  | [a] => by unfold wh; infer_instance
  | [a, b] => by unfold wh; infer_instance
  | [a, b, c] => by unfold wh; infer_instance
  | [a, b, c, d] => by unfold wh; infer_instance
  | _ :: _ :: _ :: _ :: _ :: _ => isFalse id
def cp : List Int → Int
  | [a] => a
  | [a, b] => (a - 192) * 64 + b - 128
  | [a, b, c] => ((a - 224) * 64 + b - 128) * 64 + c - 128
  | [a, b, c, d] => (((a - 240) * 64 + b - 128) * 64 + c - 128) * 64 + d - 128
  | _ => 0
/-- May bytes go on to a sign? -/
def beg : List Int → Prop
  | [a] => 194 ≤ a ∧ a ≤ 244
  | [a, b] => (224 ≤ a ∧ a ≤ 239 ∧ lo3 a ≤ b ∧ b ≤ hi3 a) ∨ (240 ≤ a ∧ a ≤ 244 ∧ lo4 a ≤ b ∧ b ≤ hi4 a)
  | [a, b, c] => 240 ≤ a ∧ a ≤ 244 ∧ lo4 a ≤ b ∧ b ≤ hi4 a ∧ 128 ≤ c ∧ c ≤ 191
  | _ => False
instance : (x : List Int) → Decidable (beg x)
  | [] => isFalse id
  | [a] => by unfold beg; infer_instance
  | [a, b] => by unfold beg; infer_instance
  | [a, b, c] => by unfold beg; infer_instance
  | _ :: _ :: _ :: _ :: _ => isFalse id
theorem lo3_ge (a : Int) : 128 ≤ lo3 a ∧ lo3 a ≤ 160 := by unfold lo3; split <;> omega
theorem hi3_le (a : Int) : hi3 a ≤ 191 ∧ 159 ≤ hi3 a := by unfold hi3; split <;> omega
theorem lo4_ge (a : Int) : 128 ≤ lo4 a ∧ lo4 a ≤ 144 := by unfold lo4; split <;> omega
theorem hi4_le (a : Int) : hi4 a ≤ 191 ∧ 143 ≤ hi4 a := by unfold hi4; split <;> omega
theorem enc1 (a : Int) (ha : 0 ≤ a ∧ a ≤ 255) : (sign a ∧ enc a = [a]) ↔ wh [a] := by
  show (sign a ∧ enc a = [a]) ↔ a < 128
  unfold sign enc
  constructor
  · rintro ⟨_, h⟩
    split at h
    · assumption
    · split at h
      · simp at h
      · split at h <;> simp at h
  · intro h
    rw [if_pos h]
    exact ⟨by omega, rfl⟩
theorem enc2 (a b : Int) (ha : 0 ≤ a ∧ a ≤ 255) (hb : 0 ≤ b ∧ b ≤ 255) : (sign (cp [a, b]) ∧ enc (cp [a, b]) = [a, b]) ↔ wh [a, b] := by
  show (sign ((a - 192) * 64 + b - 128) ∧ enc ((a - 192) * 64 + b - 128) = [a, b]) ↔ (194 ≤ a ∧ a ≤ 223 ∧ 128 ≤ b ∧ b ≤ 191)
  unfold sign enc
  constructor
  · rintro ⟨_, h⟩
    split at h
    · simp at h
    · split at h
      · simp only [List.cons.injEq, and_true] at h
        omega
      · split at h <;> simp at h
  · intro h
    rw [if_neg (by omega), if_pos (by omega)]
    refine ⟨by omega, ?_⟩
    simp only [List.cons.injEq, and_true]
    omega
theorem enc3 (a b c : Int) (ha : 0 ≤ a ∧ a ≤ 255) (hb : 0 ≤ b ∧ b ≤ 255) (hc : 0 ≤ c ∧ c ≤ 255) : (sign (cp [a, b, c]) ∧ enc (cp [a, b, c]) = [a, b, c]) ↔ wh [a, b, c] := by
  show (sign (((a - 224) * 64 + b - 128) * 64 + c - 128) ∧ enc (((a - 224) * 64 + b - 128) * 64 + c - 128) = [a, b, c]) ↔ (224 ≤ a ∧ a ≤ 239 ∧ (if a = 224 then 160 else 128) ≤ b ∧ b ≤ (if a = 237 then 159 else 191) ∧ 128 ≤ c ∧ c ≤ 191)
  unfold sign enc
  constructor
  · rintro ⟨_, h⟩
    split at h
    · simp at h
    · split at h
      · simp at h
      · split at h
        · simp only [List.cons.injEq, and_true] at h
          split <;> split <;> omega
        · simp at h
  · intro h
    rw [if_neg (by split at h <;> split at h <;> omega), if_neg (by split at h <;> split at h <;> omega), if_pos (by omega)]
    refine ⟨by split at h <;> split at h <;> omega, ?_⟩
    simp only [List.cons.injEq, and_true]
    split at h <;> split at h <;> omega
theorem enc4 (a b c d : Int) (ha : 0 ≤ a ∧ a ≤ 255) (hb : 0 ≤ b ∧ b ≤ 255) (hc : 0 ≤ c ∧ c ≤ 255) (hd : 0 ≤ d ∧ d ≤ 255) : (sign (cp [a, b, c, d]) ∧ enc (cp [a, b, c, d]) = [a, b, c, d]) ↔ wh [a, b, c, d] := by
  show (sign ((((a - 240) * 64 + b - 128) * 64 + c - 128) * 64 + d - 128) ∧ enc ((((a - 240) * 64 + b - 128) * 64 + c - 128) * 64 + d - 128) = [a, b, c, d]) ↔ (240 ≤ a ∧ a ≤ 244 ∧ (if a = 240 then 144 else 128) ≤ b ∧ b ≤ (if a = 244 then 143 else 191) ∧ 128 ≤ c ∧ c ≤ 191 ∧ 128 ≤ d ∧ d ≤ 191)
  unfold sign enc
  constructor
  · rintro ⟨_, h⟩
    split at h
    · simp at h
    · split at h
      · simp at h
      · split at h
        · simp at h
        · simp only [List.cons.injEq, and_true] at h
          split <;> split <;> omega
  · intro h
    rw [if_neg (by split at h <;> split at h <;> omega), if_neg (by split at h <;> split at h <;> omega), if_neg (by split at h <;> split at h <;> omega)]
    refine ⟨by split at h <;> split at h <;> omega, ?_⟩
    simp only [List.cons.injEq, and_true]
    split at h <;> split at h <;> omega
theorem Sign_f (c : Int) : batonref08_Sign.f c = some (decide (sign c)) := by
  unfold batonref08_Sign.f sign
  by_cases h1 : c ≥ 0
  · rw [if_pos h1]
    by_cases h2 : c ≤ 1114111
    · rw [if_pos h2]
      by_cases h3 : c < 55296
      · rw [if_pos h3]
        simp
        omega
      · rw [if_neg h3]
        exact congrArg some (decide_eq_decide.2 ⟨fun h => by omega, fun h => by omega⟩)
    · rw [if_neg h2]
      simp
      omega
  · rw [if_neg h1]
    simp
    omega
theorem enc_len (c : Int) : (enc c).length ≤ 4 := by
  unfold enc
  split
  · simp
  · split
    · simp
    · split <;> simp
def enc' (c : Int) : List Int := if sign c then enc c else enc 65533
theorem cp_nonneg : ∀ x, Bytes x → wh x → 0 ≤ cp x
  | [], _, h => h.elim
  | [a], hb, h => (hb a (by simp)).1
  | [a, b], hb, h => by
    have h2 : 194 ≤ a ∧ a ≤ 223 ∧ 128 ≤ b ∧ b ≤ 191 := h
    show 0 ≤ (a - 192) * 64 + b - 128
    omega
  | [a, b, c], hb, h => by
    have h2 : 224 ≤ a ∧ a ≤ 239 ∧ lo3 a ≤ b ∧ b ≤ hi3 a ∧ 128 ≤ c ∧ c ≤ 191 := h
    have := lo3_ge a
    show 0 ≤ ((a - 224) * 64 + b - 128) * 64 + c - 128
    omega
  | [a, b, c, d], hb, h => by
    have h2 : 240 ≤ a ∧ a ≤ 244 ∧ lo4 a ≤ b ∧ b ≤ hi4 a ∧ 128 ≤ c ∧ c ≤ 191 ∧ 128 ≤ d ∧ d ≤ 191 := h
    have := lo4_ge a
    show 0 ≤ (((a - 240) * 64 + b - 128) * 64 + c - 128) * 64 + d - 128
    omega
  | _ :: _ :: _ :: _ :: _ :: _, _, h => h.elim
theorem wh2_iff (a b : Int) : wh [a, b] ↔ (194 ≤ a ∧ a ≤ 223 ∧ 128 ≤ b ∧ b ≤ 191) := Iff.rfl
theorem wh3_iff (a b c : Int) : wh [a, b, c] ↔ (224 ≤ a ∧ a ≤ 239 ∧ lo3 a ≤ b ∧ b ≤ hi3 a ∧ 128 ≤ c ∧ c ≤ 191) := Iff.rfl
theorem wh4_iff (a b c d : Int) : wh [a, b, c, d] ↔ (240 ≤ a ∧ a ≤ 244 ∧ lo4 a ≤ b ∧ b ≤ hi4 a ∧ 128 ≤ c ∧ c ≤ 191 ∧ 128 ≤ d ∧ d ≤ 191) := Iff.rfl
/-! #### Put -/
def ref1 (b : Int) : List Int × List Int := if wh [b] then ([], [b]) else if beg [b] then ([b], []) else ([], [65533])
def refPut (W : List Int) (b : Int) : List Int × List Int :=
  if wh (W ++ [b]) then ([], [cp (W ++ [b])]) else if beg (W ++ [b]) then (W ++ [b], []) else if W = [] then ([], [65533]) else ((ref1 b).1, 65533 :: (ref1 b).2)
theorem refPut_nil (b : Int) : refPut [] b = ref1 b := by
  unfold refPut ref1
  simp only [List.nil_append, if_true]
  rfl
theorem ref1_len (b : Int) : (ref1 b).2.length ≤ 1 := by
  unfold ref1
  split
  · simp
  · split <;> simp

/-! #### a sign's own bytes -/
theorem whenc (c : Int) (h : sign c) : wh (enc c) ∧ cp (enc c) = c := by
  have h0 := h
  unfold sign at h0
  unfold enc
  by_cases c1 : c < 128
  · rw [if_pos c1]
    exact ⟨c1, rfl⟩
  · rw [if_neg c1]
    by_cases c2 : c < 2048
    · rw [if_pos c2]
      exact ⟨⟨by omega, by omega, by omega, by omega⟩, by show (192 + c / 64 - 192) * 64 + (128 + c % 64) - 128 = c; omega⟩
    · rw [if_neg c2]
      by_cases c3 : c < 65536
      · rw [if_pos c3]
        have hcp : cp [224 + c / 4096, 128 + c / 64 % 64, 128 + c % 64] = c := by
          show ((224 + c / 4096 - 224) * 64 + (128 + c / 64 % 64) - 128) * 64 + (128 + c % 64) - 128 = c
          omega
        refine ⟨(enc3 _ _ _ (by omega) (by omega) (by omega)).1 ⟨by rw [hcp]; exact h, ?_⟩, hcp⟩
        rw [hcp]
        unfold enc
        rw [if_neg c1, if_neg c2, if_pos c3]
      · rw [if_neg c3]
        have hcp : cp [240 + c / 262144, 128 + c / 4096 % 64, 128 + c / 64 % 64, 128 + c % 64] = c := by
          show (((240 + c / 262144 - 240) * 64 + (128 + c / 4096 % 64) - 128) * 64 + (128 + c / 64 % 64) - 128) * 64 + (128 + c % 64) - 128 = c
          omega
        refine ⟨(enc4 _ _ _ _ (by omega) (by omega) (by omega) (by omega)).1 ⟨by rw [hcp]; exact h, ?_⟩, hcp⟩
        rw [hcp]
        unfold enc
        rw [if_neg c1, if_neg c2, if_neg c3]
theorem enc_bytes (c : Int) (h : sign c) : Bytes (enc c) := by
  unfold sign at h
  unfold enc
  intro x hx
  by_cases c1 : c < 128
  · rw [if_pos c1] at hx
    simp at hx
    omega
  · rw [if_neg c1] at hx
    by_cases c2 : c < 2048
    · rw [if_pos c2] at hx
      simp at hx
      omega
    · rw [if_neg c2] at hx
      by_cases c3 : c < 65536
      · rw [if_pos c3] at hx
        simp at hx
        omega
      · rw [if_neg c3] at hx
        simp at hx
        omega
theorem sign65533 : sign 65533 := by decide
theorem enc'_bytes (c : Int) : Bytes (enc' c) := by
  unfold enc'
  split
  · rename_i h
    exact enc_bytes c h
  · exact enc_bytes _ sign65533
theorem enc'_len (c : Int) : (enc' c).length ≤ 4 := by
  unfold enc'
  split <;> exact enc_len _
theorem enc8_eq (c : Int) (h : sign c) : enc8 c = enc c := by
  have hv : Utf8.valid c = true := by
    rw [validRune_eq]
    unfold sign at h
    exact decide_eq_true (by omega)
  unfold enc8 Utf8.encode enc
  simp only [hv, if_true]
  obtain ⟨n, rfl⟩ : ∃ n : Nat, c = n := ⟨c.toNat, by unfold sign at h; omega⟩
  simp only [Int.toNat_natCast]
  unfold sign at h
  by_cases c1 : n < 128
  · rw [if_pos c1, if_pos (by omega)]
    simp
    omega
  · rw [if_neg c1, if_neg (show ¬ (n : Int) < 128 by omega)]
    by_cases c2 : n < 2048
    · rw [if_pos c2, if_pos (show (n : Int) < 2048 by omega)]
      simp
      omega
    · rw [if_neg c2, if_neg (show ¬ (n : Int) < 2048 by omega)]
      by_cases c3 : n < 65536
      · rw [if_pos c3, if_pos (show (n : Int) < 65536 by omega)]
        simp
        omega
      · rw [if_neg c3, if_neg (show ¬ (n : Int) < 65536 by omega)]
        simp
        omega
theorem RBytes_f (c : Int) : runes_Bytes.f c = some (enc' c) := by
  unfold runes_Bytes.f enc'
  by_cases h : sign c
  · rw [if_pos h, if_neg (by unfold sign at h; omega), enc8_eq c h]
  · rw [if_neg h, if_pos (by unfold sign at h; omega), enc8_eq _ sign65533]

theorem nums_back : ∀ (a : List Int), Bytes a → (a.map fun n => UInt8.ofNat n.toNat).map (fun u => (u.toNat : Int)) = a
  | [], _ => rfl
  | x :: t, h => by
    have h1 := h x (by simp)
    have h2 := nums_back t (fun y hy => h y (by simp [hy]))
    rw [List.map_cons, List.map_cons, h2]
    congr 1
    simp
    omega
theorem strs {a b : List Int} (ha : Bytes a) (hb : Bytes b) : ((strOfNums a).toList != (strOfNums b).toList) = decide (a ≠ b) := by
  rw [ByteArray.toList_eq, ByteArray.toList_eq, strOfNums_data, strOfNums_data]
  by_cases h : a = b
  · subst h
    simp
  · rw [decide_eq_true h]
    refine bne_iff_ne.2 (fun e => h ?_)
    rw [← nums_back a ha, ← nums_back b hb, e]
def okp (f b m : Int) : Prop := 0 ≤ f ∧ f ≤ 256 ∧ 0 ≤ b ∧ b ≤ 256 ∧ 0 ≤ m ∧ m < 128
instance (f b m : Int) : Decidable (okp f b m) := by unfold okp; infer_instance
theorem Pen_f (a b c : Int) : cell_Pen.f a b c = some (decide (okp a b c)) := by
  unfold cell_Pen.f
  repeat' split
  all_goals first | exact congrArg some (decide_eq_false (by unfold okp; omega)).symm | exact congrArg some (decide_eq_decide.2 ⟨fun h => by unfold okp; omega, fun h => by unfold okp at h; omega⟩)
def okc (c : Int) : Prop := ((32 ≤ c ∧ c ≤ 126) ∨ 160 ≤ c) ∧ sign c
instance (c : Int) : Decidable (okc c) := by unfold okc; infer_instance
theorem enc'_ne (c : Int) (h : ¬ c = 65533) : enc' c ≠ enc' 65533 ↔ sign c := by
  constructor
  · intro hne
    refine Decidable.byContradiction (fun hs => hne ?_)
    unfold enc'
    rw [if_neg hs, if_pos sign65533]
  · intro hs e
    unfold enc' at e
    rw [if_pos hs, if_pos sign65533] at e
    apply h
    rw [← (whenc c hs).2, e]
    rfl
theorem CRight_ev (c f b m : Int) : Ev (fun k => cell_Right.f k c f b m) (decide (okc c ∧ okp f b m)) := by
  have jt : ¬ (okc c ∧ okp f b m) → Ev (fun k => cell_Right.j0 k true c f b m) (decide (okc c ∧ okp f b m)) := fun h => by
    apply ev_succ
    simp only [cell_Right.j0, if_true]
    exact ev_eq (ev_some _) (decide_eq_false h).symm
  have jf : ((32 ≤ c ∧ c ≤ 126) ∨ 160 ≤ c) → okp f b m → Ev (fun k => cell_Right.j0 k false c f b m) (decide (okc c ∧ okp f b m)) := fun h1 h2 => by
    apply ev_succ
    simp only [cell_Right.j0, Bool.false_eq_true, if_false, RBytes_f, Option.bind_some]
    by_cases h3 : c = 65533
    · simp only [if_pos h3]
      exact ev_eq (ev_some _) (decide_eq_true ⟨⟨h1, by rw [h3]; exact sign65533⟩, h2⟩).symm
    · simp only [if_neg h3]
      refine ev_eq (ev_some _) ?_
      rw [strs (enc'_bytes c) (enc'_bytes _)]
      exact decide_eq_decide.2 ((enc'_ne c h3).trans ⟨fun h => ⟨⟨h1, h⟩, h2⟩, fun h => h.1.2⟩)
  have jp : ((32 ≤ c ∧ c ≤ 126) ∨ 160 ≤ c) → Ev (fun k => (cell_Pen.f f b m).bind fun t => cell_Right.j0 k (!t) c f b m) (decide (okc c ∧ okp f b m)) := fun h1 => by
    simp only [Pen_f, Option.bind_some]
    by_cases h2 : okp f b m
    · rw [decide_eq_true h2]
      exact jf h1 h2
    · rw [decide_eq_false h2]
      exact jt (fun h => h2 h.2)
  unfold cell_Right.f
  by_cases c1 : c < 32
  · simp only [if_pos c1]
    exact jt (fun h => by have := h.1.1; omega)
  · by_cases c2 : c > 126
    · by_cases c3 : c < 160
      · simp only [if_neg c1, if_pos c2, if_pos c3]
        exact jt (fun h => by have := h.1.1; omega)
      · simp only [if_neg c1, if_pos c2, if_neg c3]
        exact jp (.inr (by omega))
    · simp only [if_neg c1, if_neg c2]
      exact jp (.inl (by omega))
theorem RRight_f (c f b m : Int) (h0 : -2147483648 ≤ c) (h1 : c ≤ 2147483647) : batonref09_Right.f c f b m = some (decide (okc c ∧ okp f b m)) := by
  unfold batonref09_Right.f
  rw [w64 (x := c) (by omega) (by omega)]
  simp only [Sign_f, Option.bind_some]
  repeat' split
  all_goals first | exact congrArg some (decide_eq_false (fun h => by have := h.1.1; have h2 := h.2; unfold okp at h2; omega)).symm | exact congrArg some (decide_eq_decide.2 ⟨fun h => ⟨⟨by omega, h⟩, by unfold okp; omega⟩, fun h => h.1.2⟩)

end Go.Proofs.Ytkckojgjkmcokaa.LF09B
