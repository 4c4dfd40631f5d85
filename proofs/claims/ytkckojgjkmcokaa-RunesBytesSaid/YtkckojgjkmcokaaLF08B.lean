/- Plain lemmas on the functions of this family (RunesBytes): what each loop comes to. No condition. -/
import Derived.Test.YtkckojgjkmcokaaBase
import Derived.Test.YtkckojgjkmcokaaPF08Bx
namespace Go.Proofs.Ytkckojgjkmcokaa.LF08B
open Go.RowKit Go.Proofs.Ytkckojgjkmcokaa.Base Go.Proofs.YtkckojgjkmcokaaW.PrintWords Go.Proofs.YtkckojgjkmcokaaW.PrintMore Go.Proofs.Ytkckojgjkmcokaa.PF08B
set_option linter.unusedVariables false
set_option linter.unusedSimpArgs false

/-! ### batonref01 -/
theorem Same_l0 (a b : List Int) (h : a.length = b.length) (hl : a.length ≤ 9000000000000000000) : ∀ (d i : Nat), a.length - i = d → i ≤ a.length → Ev (fun k => batonref01_Same.l0 k a b (i : Int)) (decide (a.drop i = b.drop i)) := by
  intro d
  induction d with
  | zero =>
    intro i hd hi
    obtain rfl : i = a.length := by omega
    apply ev_succ
    simp only [batonref01_Same.l0, if_neg (show ¬ ((a.length : Int) < (a.length : Int)) by omega)]
    exact ev_eq (ev_some _) (by simp [h])
  | succ d ih =>
    intro i hd hi
    have hlt : i < a.length := by omega
    have hltb : i < b.length := by omega
    have hw : wrap64 ((i : Int) + 1) = ((i + 1 : Nat) : Int) := by rw [w64 (by omega) (by omega)]; omega
    apply ev_succ
    simp only [batonref01_Same.l0, if_pos (show (i : Int) < (a.length : Int) by omega), if_pos (show (0 : Int) ≤ (i : Int) by omega), if_pos (show (i : Int) < (b.length : Int) by omega), rd_lt hlt, rd_lt hltb, hw]
    have key : (a.drop i = b.drop i) ↔ (a[i] = b[i] ∧ a.drop (i + 1) = b.drop (i + 1)) := by
      rw [List.drop_eq_getElem_cons hlt, List.drop_eq_getElem_cons hltb]
      exact List.cons_eq_cons
    by_cases e : a[i] = b[i]
    · simp only [if_pos e]
      refine ev_eq (ih (i + 1) (by omega) (by omega)) ?_
      simp only [key, e, true_and]
    · simp only [if_neg e]
      refine ev_eq (ev_some _) ?_
      simp only [key, e, false_and, decide_false]
theorem Same_ev (a b : List Int) (hl : a.length ≤ 9000000000000000000) : Ev (fun k => batonref01_Same.f k a b) (decide (a = b)) := by
  unfold batonref01_Same.f
  by_cases h : a.length = b.length
  · simp only [if_pos (show (a.length : Int) = (b.length : Int) by omega)]
    exact ev_eq (Same_l0 a b h hl a.length 0 (by omega) (by omega)) (by simp)
  · simp only [if_neg (show ¬ ((a.length : Int) = (b.length : Int)) by omega)]
    exact ev_eq (ev_some _) (by simp; intro e; exact h (by rw [e]))

/-! ### signs: the document's answer -/
def lo3 (a : Int) : Int := if a = 224 then 160 else 128
def hi3 (a : Int) : Int := if a = 237 then 159 else 191
def lo4 (a : Int) : Int := if a = 240 then 144 else 128
def hi4 (a : Int) : Int := if a = 244 then 143 else 191
def sign (c : Int) : Prop := 0 ≤ c ∧ c ≤ 1114111 ∧ (c < 55296 ∨ c > 57343)
instance (c : Int) : Decidable (sign c) := by unfold sign; infer_instance
def enc (c : Int) : List Int :=
  if c < 128 then [c] else if c < 2048 then [192 + c / 64, 128 + c % 64] else if c < 65536 then [224 + c / 4096, 128 + c / 64 % 64, 128 + c % 64]
  else [240 + c / 262144, 128 + c / 4096 % 64, 128 + c / 64 % 64, 128 + c % 64]
/-- Are bytes a sign? -/
def wh : List Int → Prop
  | [a] => a < 128
  | [a, b] => 194 ≤ a ∧ a ≤ 223 ∧ 128 ≤ b ∧ b ≤ 191
  | [a, b, c] => 224 ≤ a ∧ a ≤ 239 ∧ lo3 a ≤ b ∧ b ≤ hi3 a ∧ 128 ≤ c ∧ c ≤ 191
  | [a, b, c, d] => 240 ≤ a ∧ a ≤ 244 ∧ lo4 a ≤ b ∧ b ≤ hi4 a ∧ 128 ≤ c ∧ c ≤ 191 ∧ 128 ≤ d ∧ d ≤ 191
  | _ => False
instance : (x : List Int) → Decidable (wh x)
  | [] => isFalse id
  | [a] => by unfold wh; infer_instance
  | [a, b] => by unfold wh; infer_instance
  | [a, b, c] => by unfold wh; infer_instance
  | [a, b, c, d] => by unfold wh; infer_instance
  | _ :: _ :: _ :: _ :: _ :: _ => isFalse id
def cp : List Int → Int
  | [a] => a
  | [a, b] => (a - 192) * 64 + b - 128
  | [a, b, c] => ((a - 224) * 64 + b - 128) * 64 + c - 128
  | [a, b, c, d] => (((a - 240) * 64 + b - 128) * 64 + c - 128) * 64 + d - 128
  | _ => 0
/-- May bytes go on to a sign? -/
def beg : List Int → Prop
  | [a] => 194 ≤ a ∧ a ≤ 244
  | [a, b] => (224 ≤ a ∧ a ≤ 239 ∧ lo3 a ≤ b ∧ b ≤ hi3 a) ∨ (240 ≤ a ∧ a ≤ 244 ∧ lo4 a ≤ b ∧ b ≤ hi4 a)
  | [a, b, c] => 240 ≤ a ∧ a ≤ 244 ∧ lo4 a ≤ b ∧ b ≤ hi4 a ∧ 128 ≤ c ∧ c ≤ 191
  | _ => False
instance : (x : List Int) → Decidable (beg x)
  | [] => isFalse id
  | [a] => by unfold beg; infer_instance
  | [a, b] => by unfold beg; infer_instance
  | [a, b, c] => by unfold beg; infer_instance
  | _ :: _ :: _ :: _ :: _ => isFalse id
theorem lo3_ge (a : Int) : 128 ≤ lo3 a ∧ lo3 a ≤ 160 := by unfold lo3; split <;> omega
theorem hi3_le (a : Int) : hi3 a ≤ 191 ∧ 159 ≤ hi3 a := by unfold hi3; split <;> omega
theorem lo4_ge (a : Int) : 128 ≤ lo4 a ∧ lo4 a ≤ 144 := by unfold lo4; split <;> omega
theorem hi4_le (a : Int) : hi4 a ≤ 191 ∧ 143 ≤ hi4 a := by unfold hi4; split <;> omega
theorem enc1 (a : Int) (ha : 0 ≤ a ∧ a ≤ 255) : (sign a ∧ enc a = [a]) ↔ wh [a] := by
  show (sign a ∧ enc a = [a]) ↔ a < 128
  unfold sign enc
  constructor
  · rintro ⟨_, h⟩
    split at h
    · assumption
    · split at h
      · simp at h
      · split at h <;> simp at h
  · intro h
    rw [if_pos h]
    exact ⟨by omega, rfl⟩
theorem enc2 (a b : Int) (ha : 0 ≤ a ∧ a ≤ 255) (hb : 0 ≤ b ∧ b ≤ 255) : (sign (cp [a, b]) ∧ enc (cp [a, b]) = [a, b]) ↔ wh [a, b] := by
  show (sign ((a - 192) * 64 + b - 128) ∧ enc ((a - 192) * 64 + b - 128) = [a, b]) ↔ (194 ≤ a ∧ a ≤ 223 ∧ 128 ≤ b ∧ b ≤ 191)
  unfold sign enc
  constructor
  · rintro ⟨_, h⟩
    split at h
    · simp at h
    · split at h
      · simp only [List.cons.injEq, and_true] at h
        omega
      · split at h <;> simp at h
  · intro h
    rw [if_neg (by omega), if_pos (by omega)]
    refine ⟨by omega, ?_⟩
    simp only [List.cons.injEq, and_true]
    omega
theorem enc3 (a b c : Int) (ha : 0 ≤ a ∧ a ≤ 255) (hb : 0 ≤ b ∧ b ≤ 255) (hc : 0 ≤ c ∧ c ≤ 255) : (sign (cp [a, b, c]) ∧ enc (cp [a, b, c]) = [a, b, c]) ↔ wh [a, b, c] := by
  show (sign (((a - 224) * 64 + b - 128) * 64 + c - 128) ∧ enc (((a - 224) * 64 + b - 128) * 64 + c - 128) = [a, b, c]) ↔ (224 ≤ a ∧ a ≤ 239 ∧ (if a = 224 then 160 else 128) ≤ b ∧ b ≤ (if a = 237 then 159 else 191) ∧ 128 ≤ c ∧ c ≤ 191)
  unfold sign enc
  constructor
  · rintro ⟨_, h⟩
    split at h
    · simp at h
    · split at h
      · simp at h
      · split at h
        · simp only [List.cons.injEq, and_true] at h
          split <;> split <;> omega
        · simp at h
  · intro h
    rw [if_neg (by split at h <;> split at h <;> omega), if_neg (by split at h <;> split at h <;> omega), if_pos (by omega)]
    refine ⟨by split at h <;> split at h <;> omega, ?_⟩
    simp only [List.cons.injEq, and_true]
    split at h <;> split at h <;> omega
theorem enc4 (a b c d : Int) (ha : 0 ≤ a ∧ a ≤ 255) (hb : 0 ≤ b ∧ b ≤ 255) (hc : 0 ≤ c ∧ c ≤ 255) (hd : 0 ≤ d ∧ d ≤ 255) : (sign (cp [a, b, c, d]) ∧ enc (cp [a, b, c, d]) = [a, b, c, d]) ↔ wh [a, b, c, d] := by
  show (sign ((((a - 240) * 64 + b - 128) * 64 + c - 128) * 64 + d - 128) ∧ enc ((((a - 240) * 64 + b - 128) * 64 + c - 128) * 64 + d - 128) = [a, b, c, d]) ↔ (240 ≤ a ∧ a ≤ 244 ∧ (if a = 240 then 144 else 128) ≤ b ∧ b ≤ (if a = 244 then 143 else 191) ∧ 128 ≤ c ∧ c ≤ 191 ∧ 128 ≤ d ∧ d ≤ 191)
  unfold sign enc
  constructor
  · rintro ⟨_, h⟩
    split at h
    · simp at h
    · split at h
      · simp at h
      · split at h
        · simp at h
        · simp only [List.cons.injEq, and_true] at h
          split <;> split <;> omega
  · intro h
    rw [if_neg (by split at h <;> split at h <;> omega), if_neg (by split at h <;> split at h <;> omega), if_neg (by split at h <;> split at h <;> omega)]
    refine ⟨by split at h <;> split at h <;> omega, ?_⟩
    simp only [List.cons.injEq, and_true]
    split at h <;> split at h <;> omega
theorem Sign_f (c : Int) : batonref08_Sign.f c = some (decide (sign c)) := by
  unfold batonref08_Sign.f sign
  by_cases h1 : c ≥ 0
  · rw [if_pos h1]
    by_cases h2 : c ≤ 1114111
    · rw [if_pos h2]
      by_cases h3 : c < 55296
      · rw [if_pos h3]
        simp
        omega
      · rw [if_neg h3]
        exact congrArg some (decide_eq_decide.2 ⟨fun h => by omega, fun h => by omega⟩)
    · rw [if_neg h2]
      simp
      omega
  · rw [if_neg h1]
    simp
    omega
theorem enc_len (c : Int) : (enc c).length ≤ 4 := by
  unfold enc
  split
  · simp
  · split
    · simp
    · split <;> simp
theorem Bytes_j0 (c : Int) (h0 : 0 ≤ c) (h1 : c ≤ 1114111) : Ev (fun k => batonref08_Bytes.j0 k c) (enc c) := by
  have t1 : Int.tdiv c 64 = c / 64 := Int.tdiv_eq_ediv_of_nonneg h0
  have t2 : Int.tdiv c 4096 = c / 4096 := Int.tdiv_eq_ediv_of_nonneg h0
  have t3 : Int.tdiv c 262144 = c / 262144 := Int.tdiv_eq_ediv_of_nonneg h0
  have m1 : Int.tmod c 64 = c % 64 := Int.tmod_eq_emod_of_nonneg h0
  have m2 : Int.tmod (c / 64) 64 = c / 64 % 64 := Int.tmod_eq_emod_of_nonneg (by omega)
  have m3 : Int.tmod (c / 4096) 64 = c / 4096 % 64 := Int.tmod_eq_emod_of_nonneg (by omega)
  apply ev_succ
  unfold enc
  by_cases c1 : c < 128
  · simp only [batonref08_Bytes.j0, if_pos c1, show c % 256 = c from by omega]
    exact ev_some _
  · by_cases c2 : c < 2048
    · simp only [batonref08_Bytes.j0, if_neg c1, if_pos c2, t1, m1]
      rw [w64 (x := c / 64) (by omega) (by omega), w64 (x := 192 + c / 64) (by omega) (by omega), w64 (x := 128 + c % 64) (by omega) (by omega), show (192 + c / 64) % 256 = 192 + c / 64 by omega, show (128 + c % 64) % 256 = 128 + c % 64 by omega]
      exact ev_some _
    · by_cases c3 : c < 65536
      · simp only [batonref08_Bytes.j0, if_neg c1, if_neg c2, if_pos c3, t1, t2, m1]
        rw [w64 (x := c / 64) (by omega) (by omega), m2, w64 (x := c / 4096) (by omega) (by omega), w64 (x := 224 + c / 4096) (by omega) (by omega), w64 (x := 128 + c / 64 % 64) (by omega) (by omega), w64 (x := 128 + c % 64) (by omega) (by omega), show (224 + c / 4096) % 256 = 224 + c / 4096 by omega, show (128 + c / 64 % 64) % 256 = 128 + c / 64 % 64 by omega, show (128 + c % 64) % 256 = 128 + c % 64 by omega]
        exact ev_some _
      · simp only [batonref08_Bytes.j0, if_neg c1, if_neg c2, if_neg c3, t1, t2, t3, m1]
        rw [w64 (x := c / 64) (by omega) (by omega), m2, w64 (x := c / 4096) (by omega) (by omega), m3, w64 (x := c / 262144) (by omega) (by omega), w64 (x := 240 + c / 262144) (by omega) (by omega), w64 (x := 128 + c / 4096 % 64) (by omega) (by omega), w64 (x := 128 + c / 64 % 64) (by omega) (by omega), w64 (x := 128 + c % 64) (by omega) (by omega), show (240 + c / 262144) % 256 = 240 + c / 262144 by omega, show (128 + c / 4096 % 64) % 256 = 128 + c / 4096 % 64 by omega, show (128 + c / 64 % 64) % 256 = 128 + c / 64 % 64 by omega, show (128 + c % 64) % 256 = 128 + c % 64 by omega]
        exact ev_some _
def enc' (c : Int) : List Int := if sign c then enc c else enc 65533
theorem Bytes_ev (c : Int) : Ev (fun k => batonref08_Bytes.f k c) (enc' c) := by
  unfold batonref08_Bytes.f enc'
  simp only [Sign_f, Option.bind_some, decide_eq_true_eq]
  by_cases h : sign c
  · simp only [if_pos h]
    exact Bytes_j0 c h.1 h.2.1
  · simp only [if_neg h]
    exact Bytes_j0 65533 (by omega) (by omega)
theorem cp_nonneg : ∀ x, Bytes x → wh x → 0 ≤ cp x
  | [], _, h => h.elim
  | [a], hb, h => (hb a (by simp)).1
  | [a, b], hb, h => by
    have h2 : 194 ≤ a ∧ a ≤ 223 ∧ 128 ≤ b ∧ b ≤ 191 := h
    show 0 ≤ (a - 192) * 64 + b - 128
    omega
  | [a, b, c], hb, h => by
    have h2 : 224 ≤ a ∧ a ≤ 239 ∧ lo3 a ≤ b ∧ b ≤ hi3 a ∧ 128 ≤ c ∧ c ≤ 191 := h
    have := lo3_ge a
    show 0 ≤ ((a - 224) * 64 + b - 128) * 64 + c - 128
    omega
  | [a, b, c, d], hb, h => by
    have h2 : 240 ≤ a ∧ a ≤ 244 ∧ lo4 a ≤ b ∧ b ≤ hi4 a ∧ 128 ≤ c ∧ c ≤ 191 ∧ 128 ≤ d ∧ d ≤ 191 := h
    have := lo4_ge a
    show 0 ≤ (((a - 240) * 64 + b - 128) * 64 + c - 128) * 64 + d - 128
    omega
  | _ :: _ :: _ :: _ :: _ :: _, _, h => h.elim
theorem wh2_iff (a b : Int) : wh [a, b] ↔ (194 ≤ a ∧ a ≤ 223 ∧ 128 ≤ b ∧ b ≤ 191) := Iff.rfl
theorem wh3_iff (a b c : Int) : wh [a, b, c] ↔ (224 ≤ a ∧ a ≤ 239 ∧ lo3 a ≤ b ∧ b ≤ hi3 a ∧ 128 ≤ c ∧ c ≤ 191) := Iff.rfl
theorem wh4_iff (a b c d : Int) : wh [a, b, c, d] ↔ (240 ≤ a ∧ a ≤ 244 ∧ lo4 a ≤ b ∧ b ≤ hi4 a ∧ 128 ≤ c ∧ c ≤ 191 ∧ 128 ≤ d ∧ d ≤ 191) := Iff.rfl
/-! #### Put -/
def ref1 (b : Int) : List Int × List Int := if wh [b] then ([], [b]) else if beg [b] then ([b], []) else ([], [65533])
def refPut (W : List Int) (b : Int) : List Int × List Int :=
  if wh (W ++ [b]) then ([], [cp (W ++ [b])]) else if beg (W ++ [b]) then (W ++ [b], []) else if W = [] then ([], [65533]) else ((ref1 b).1, 65533 :: (ref1 b).2)
theorem refPut_nil (b : Int) : refPut [] b = ref1 b := by
  unfold refPut ref1
  simp only [List.nil_append, if_true]
  rfl
theorem ref1_len (b : Int) : (ref1 b).2.length ≤ 1 := by
  unfold ref1
  split
  · simp
  · split <;> simp

/-! #### the decoder -/
def st : List Int → Int × Int × Int × Int × Int
  | [a] => if a ≤ 223 then (a - 192, 1, 128, 191, 1) else if a ≤ 239 then (a - 224, 2, lo3 a, hi3 a, 1) else (a - 240, 3, lo4 a, hi4 a, 1)
  | [a, b] => if a ≤ 239 then ((a - 224) * 64 + b - 128, 1, 128, 191, 2) else ((a - 240) * 64 + b - 128, 2, 128, 191, 2)
  | [a, b, c] => (((a - 240) * 64 + b - 128) * 64 + c - 128, 1, 128, 191, 3)
  | _ => (0, 0, 0, 0, 0)
theorem and_i32_small (m : Nat) (hm : ∀ n : Fin 256, Go.bits .and .i32 (wrap32 (n.val : Int)) (m : Int) = ((n.val &&& m : Nat) : Int)) (b : Int) (hb : 0 ≤ b ∧ b ≤ 255) : Go.bits .and .i32 (wrap32 b) (m : Int) = ((b.toNat &&& m : Nat) : Int) := by
  have := hm ⟨b.toNat, by omega⟩
  simp only at this
  rwa [Int.toNat_of_nonneg hb.1] at this
theorem and31 (b : Int) (hb : 0 ≤ b ∧ b ≤ 255) : Go.bits .and .i32 (wrap32 b) (shr .i32 63 (IntKind.u64.wrap 1)) = b % 32 := by
  have h1 : ∀ n : Fin 256, Go.bits .and .i32 (wrap32 (n.val : Int)) (shr .i32 63 (IntKind.u64.wrap 1)) = (n.val : Int) % 32 := by decide +kernel
  have := h1 ⟨b.toNat, by omega⟩
  simp only at this
  rwa [Int.toNat_of_nonneg hb.1] at this
theorem and15 (b : Int) (hb : 0 ≤ b ∧ b ≤ 255) : Go.bits .and .i32 (wrap32 b) (shr .i32 63 (IntKind.u64.wrap 2)) = b % 16 := by
  have h1 : ∀ n : Fin 256, Go.bits .and .i32 (wrap32 (n.val : Int)) (shr .i32 63 (IntKind.u64.wrap 2)) = (n.val : Int) % 16 := by decide +kernel
  have := h1 ⟨b.toNat, by omega⟩
  simp only at this
  rwa [Int.toNat_of_nonneg hb.1] at this
theorem and7 (b : Int) (hb : 0 ≤ b ∧ b ≤ 255) : Go.bits .and .i32 (wrap32 b) (shr .i32 63 (IntKind.u64.wrap 3)) = b % 8 := by
  have h1 : ∀ n : Fin 256, Go.bits .and .i32 (wrap32 (n.val : Int)) (shr .i32 63 (IntKind.u64.wrap 3)) = (n.val : Int) % 8 := by decide +kernel
  have := h1 ⟨b.toNat, by omega⟩
  simp only at this
  rwa [Int.toNat_of_nonneg hb.1] at this
theorem and63 (b : Int) (hb : 0 ≤ b ∧ b ≤ 255) : wrap32 (Go.bits .and .u8 b 63) = b % 64 := by
  have h1 : ∀ n : Fin 256, wrap32 (Go.bits .and .u8 (n.val : Int) 63) = (n.val : Int) % 64 := by decide +kernel
  have := h1 ⟨b.toNat, by omega⟩
  simp only at this
  rwa [Int.toNat_of_nonneg hb.1] at this
theorem wrap32_of {x : Int} (h1 : -2147483648 ≤ x) (h2 : x ≤ 2147483647) : wrap32 x = x := by unfold wrap32; omega
theorem or6 (c b : Int) (hc : 0 ≤ c ∧ c ≤ 1000000) (hb : 0 ≤ b ∧ b ≤ 255) : Go.bits .or .i32 (wrap32 (c * 64)) (wrap32 (Go.bits .and .u8 b 63)) = c * 64 + b % 64 := by
  rw [and63 b hb, wrap32_of (by omega) (by omega)]
  refine bits_join .i32 31 (by decide) (fun n h0 h1 => ?_) 6 (c * 64) (b % 64) (by omega) (by omega) (by omega) (by omega) (by omega) (by omega)
  rw [IntKind.wrap_i32]
  omega
theorem st_a {a : Int} (h : a ≤ 223) : st [a] = (a - 192, 1, 128, 191, 1) := if_pos h
theorem st_b {a : Int} (h : ¬ a ≤ 223) (h2 : a ≤ 239) : st [a] = (a - 224, 2, lo3 a, hi3 a, 1) := (if_neg h).trans (if_pos h2)
theorem st_c {a : Int} (h : ¬ a ≤ 223) (h2 : ¬ a ≤ 239) : st [a] = (a - 240, 3, lo4 a, hi4 a, 1) := (if_neg h).trans (if_neg h2)
theorem st_d {a b : Int} (h2 : a ≤ 239) : st [a, b] = ((a - 224) * 64 + b - 128, 1, 128, 191, 2) := if_pos h2
theorem st_e {a b : Int} (h2 : ¬ a ≤ 239) : st [a, b] = ((a - 240) * 64 + b - 128, 2, 128, 191, 2) := if_neg h2
theorem st_f (a b c : Int) : st [a, b, c] = (((a - 240) * 64 + b - 128) * 64 + c - 128, 1, 128, 191, 3) := rfl
def st5 (o : List Int) (s : Int × Int × Int × Int × Int) : List Int × Int × Int × Int × Int × Int := (o, s.1, s.2.1, s.2.2.1, s.2.2.2.1, s.2.2.2.2)
theorem begin_ev (b : Int) (hb : 0 ≤ b ∧ b ≤ 255) : Ev (fun k => runes_Decoder_begin.f k 0 0 0 0 0 b) (st5 (ref1 b).2 (st (ref1 b).1)) := by
  have u0 : ∀ n : Int, 0 ≤ n → n ≤ 3 → (0 ≤ IntKind.u64.wrap n) := fun n h0 h1 => by rw [IntKind.wrap_u64]; omega
  have hw1 : wh [b] ↔ b < 128 := Iff.rfl
  have hb1 : beg [b] ↔ 194 ≤ b ∧ b ≤ 244 := Iff.rfl
  have j2 : ∀ n : Int, 1 ≤ n → n ≤ 3 → ∀ m : Int, Go.bits .and .i32 (wrap32 b) (shr .i32 63 (IntKind.u64.wrap n)) = m → Ev (fun k => runes_Decoder_begin.j2 k b 128 191 n) ([], m, n, if b = 224 then 160 else if b = 240 then 144 else 128, if b = 237 then 159 else if b = 244 then 143 else 191, 1) := fun n h0 h1 m hm => by
    apply ev_succ
    simp only [runes_Decoder_begin.j2, if_pos (u0 n (by omega) h1), hm]
    by_cases c1 : b = 224
    · simp only [if_pos c1, if_neg (show ¬ b = 237 by omega), if_neg (show ¬ b = 244 by omega)]
      exact ev_some _
    · by_cases c2 : b = 237
      · simp only [if_neg c1, if_pos c2, if_neg (show ¬ b = 240 by omega)]
        exact ev_some _
      · by_cases c3 : b = 240
        · simp only [if_neg c1, if_neg c2, if_pos c3, if_neg (show ¬ b = 244 by omega)]
          exact ev_some _
        · simp only [if_neg c1, if_neg c2, if_neg c3]
          by_cases c4 : b = 244
          · simp only [if_pos c4]
            exact ev_some _
          · simp only [if_neg c4]
            exact ev_some _
  unfold runes_Decoder_begin.f
  by_cases c0 : b < 128
  · simp only [if_pos c0, wrap32_of (show -2147483648 ≤ b by omega) (show b ≤ 2147483647 by omega)]
    refine ev_eq (ev_some _) ?_
    unfold ref1
    rw [if_pos (hw1.2 c0)]
    rfl
  · simp only [if_neg c0]
    unfold ref1
    rw [if_neg (show ¬ wh [b] from c0)]
    have bad : (b < 194 ∨ 244 < b) → (if beg [b] then (([b], []) : List Int × List Int) else ([], [65533])) = ([], [65533]) := fun h => if_neg (fun h2 => by have := hb1.1 h2; omega)
    have good : (194 ≤ b ∧ b ≤ 244) → (if beg [b] then (([b], []) : List Int × List Int) else ([], [65533])) = ([b], []) := fun h => if_pos (hb1.2 h)
    by_cases c1 : b ≥ 194
    · simp only [if_pos c1]
      by_cases c2 : b ≤ 223
      · rw [decide_eq_true c2, good ⟨c1, by omega⟩]
        apply ev_succ
        simp only [runes_Decoder_begin.j0, if_true]
        refine ev_eq (j2 1 (by omega) (by omega) (b % 32) (and31 b hb)) ?_
        rw [st_a c2]
        unfold st5
        rw [if_neg (show ¬ b = 224 by omega), if_neg (show ¬ b = 240 by omega), if_neg (show ¬ b = 237 by omega), if_neg (show ¬ b = 244 by omega), show b % 32 = b - 192 by omega]
      · rw [decide_eq_false c2]
        apply ev_succ
        simp only [runes_Decoder_begin.j0, Bool.false_eq_true, if_false, if_pos (show b ≥ 224 by omega)]
        by_cases c3 : b ≤ 239
        · rw [decide_eq_true c3, good ⟨c1, by omega⟩]
          apply ev_succ
          simp only [runes_Decoder_begin.j1, if_true]
          refine ev_eq (j2 2 (by omega) (by omega) (b % 16) (and15 b hb)) ?_
          rw [st_b c2 c3]
          unfold st5 lo3 hi3
          rw [if_neg (show ¬ b = 240 by omega), if_neg (show ¬ b = 244 by omega), show b % 16 = b - 224 by omega]
        · rw [decide_eq_false c3]
          apply ev_succ
          simp only [runes_Decoder_begin.j1, Bool.false_eq_true, if_false, if_pos (show b ≥ 240 by omega)]
          by_cases c4 : b ≤ 244
          · simp only [if_pos c4]
            rw [good ⟨c1, c4⟩]
            refine ev_eq (j2 3 (by omega) (by omega) (b % 8) (and7 b hb)) ?_
            rw [st_c c2 c3]
            unfold st5 lo4 hi4
            rw [if_neg (show ¬ b = 224 by omega), if_neg (show ¬ b = 237 by omega), show b % 8 = b - 240 by omega]
          · simp only [if_neg c4]
            rw [bad (by omega)]
            exact ev_some _
    · simp only [if_neg c1]
      rw [bad (by omega)]
      apply ev_succ
      simp only [runes_Decoder_begin.j0, Bool.false_eq_true, if_false, if_neg (show ¬ b ≥ 224 by omega)]
      apply ev_succ
      simp only [runes_Decoder_begin.j1, Bool.false_eq_true, if_false, if_neg (show ¬ b ≥ 240 by omega)]
      exact ev_some _
theorem DPut_gen (c n lo hi came b : Int) (hc : 0 ≤ c ∧ c ≤ 1000000) (hn : 1 ≤ n ∧ n ≤ 3) (hm : 0 ≤ came ∧ came ≤ 3) (hb : 0 ≤ b ∧ b ≤ 255) : Ev (fun k => runes_Decoder_Put.f k c n lo hi came b)
    (if b < lo ∨ b > hi then st5 (65533 :: (ref1 b).2) (st (ref1 b).1) else if n = 1 then st5 [c * 64 + b % 64] (0, 0, 0, 0, 0) else st5 [] (c * 64 + b % 64, n - 1, 128, 191, came + 1)) := by
  have jt : Ev (fun k => runes_Decoder_Put.j0 k b true c n lo hi came) (st5 (65533 :: (ref1 b).2) (st (ref1 b).1)) := by
    apply ev_succ
    simp only [runes_Decoder_Put.j0, if_true, Option.bind_some]
    refine ev_bind (begin_ev b hb) ?_
    have := ref1_len b
    simp only [if_pos (show ([65533] : List Int).length + (st5 (ref1 b).2 (st (ref1 b).1)).1.length < 35184372088832 by show 1 + (ref1 b).2.length < 35184372088832; omega)]
    exact ev_some _
  unfold runes_Decoder_Put.f
  simp only [if_neg (show ¬ n = 0 by omega)]
  by_cases h1 : b < lo
  · simp only [if_pos h1, if_pos (show b < lo ∨ b > hi from .inl h1)]
    exact jt
  · simp only [if_neg h1]
    by_cases h2 : b > hi
    · rw [decide_eq_true h2, if_pos (.inr h2)]
      exact jt
    · rw [decide_eq_false h2, if_neg (by omega)]
      apply ev_succ
      simp only [runes_Decoder_Put.j0, Bool.false_eq_true, if_false, or6 c b hc hb]
      by_cases h3 : n = 1
      · simp only [if_pos h3]
        exact ev_some _
      · simp only [if_neg h3]
        rw [w64 (x := n - 1) (by omega) (by omega), w64 (x := came + 1) (by omega) (by omega)]
        exact ev_some _
theorem refPut_bad {W : List Int} {b : Int} (h3 : W ≠ []) (h1 : ¬ wh (W ++ [b])) (h2 : ¬ beg (W ++ [b])) : refPut W b = ((ref1 b).1, 65533 :: (ref1 b).2) := by
  unfold refPut
  rw [if_neg h1, if_neg h2, if_neg h3]
theorem refPut_whole {W : List Int} {b : Int} (h1 : wh (W ++ [b])) : refPut W b = ([], [cp (W ++ [b])]) := by
  unfold refPut
  rw [if_pos h1]
theorem refPut_beg {W : List Int} {b : Int} (h1 : ¬ wh (W ++ [b])) (h2 : beg (W ++ [b])) : refPut W b = (W ++ [b], []) := by
  unfold refPut
  rw [if_neg h1, if_pos h2]
def DP (k : Nat) (s : Int × Int × Int × Int × Int) (b : Int) : Option (List Int × Int × Int × Int × Int × Int) := runes_Decoder_Put.f k s.1 s.2.1 s.2.2.1 s.2.2.2.1 s.2.2.2.2 b
theorem DPut_ev : ∀ (W : List Int), (W = [] ∨ beg W) → Bytes W → ∀ b : Int, 0 ≤ b ∧ b ≤ 255 → Ev (fun k => DP k (st W) b) (st5 (refPut W b).2 (st (refPut W b).1))
  | [], _, _, b, hb => by
    rw [refPut_nil]
    show Ev (fun k => runes_Decoder_Put.f k 0 0 0 0 0 b) _
    unfold runes_Decoder_Put.f
    simp only [if_true]
    exact ev_bind (begin_ev b hb) (ev_some _)
  | [a], h, hB, b, hb => by
    have hbeg : 194 ≤ a ∧ a ≤ 244 := h.resolve_left (by simp)
    by_cases c1 : a ≤ 223
    · rw [st_a c1]
      refine ev_eq (DPut_gen (a - 192) 1 128 191 1 b (by omega) (by omega) (by omega) hb) ?_
      by_cases c : b < 128 ∨ b > 191
      · rw [if_pos c, refPut_bad (W := [a]) (by simp) (fun h : wh [a, b] => by have := (wh2_iff a b).1 h; omega) (fun h : beg [a, b] => by rcases h with h | h <;> omega)]
      · rw [if_neg c, if_pos rfl, refPut_whole (W := [a]) (show wh [a, b] from ⟨by omega, by omega, by omega, by omega⟩)]
        show st5 _ _ = st5 [(a - 192) * 64 + b - 128] _
        rw [show (a - 192) * 64 + b % 64 = (a - 192) * 64 + b - 128 by omega]
        rfl
    · by_cases c2 : a ≤ 239
      · rw [st_b c1 c2]
        have := lo3_ge a
        have := hi3_le a
        refine ev_eq (DPut_gen (a - 224) 2 (lo3 a) (hi3 a) 1 b (by omega) (by omega) (by omega) hb) ?_
        have nw : ¬ wh ([a] ++ [b]) := fun h : wh [a, b] => by have := (wh2_iff a b).1 h; omega
        by_cases c : b < lo3 a ∨ b > hi3 a
        · rw [if_pos c, refPut_bad (W := [a]) (by simp) nw (fun h : beg [a, b] => by rcases h with h | h <;> omega)]
        · rw [if_neg c, if_neg (by decide), refPut_beg (W := [a]) nw (show beg [a, b] from .inl ⟨by omega, by omega, by omega, by omega⟩)]
          show _ = st5 [] (st [a, b])
          rw [st_d c2, show (a - 224) * 64 + b % 64 = (a - 224) * 64 + b - 128 by omega]
          rfl
      · rw [st_c c1 c2]
        have := lo4_ge a
        have := hi4_le a
        refine ev_eq (DPut_gen (a - 240) 3 (lo4 a) (hi4 a) 1 b (by omega) (by omega) (by omega) hb) ?_
        have nw : ¬ wh ([a] ++ [b]) := fun h : wh [a, b] => by have := (wh2_iff a b).1 h; omega
        by_cases c : b < lo4 a ∨ b > hi4 a
        · rw [if_pos c, refPut_bad (W := [a]) (by simp) nw (fun h : beg [a, b] => by rcases h with h | h <;> omega)]
        · rw [if_neg c, if_neg (by decide), refPut_beg (W := [a]) nw (show beg [a, b] from .inr ⟨by omega, by omega, by omega, by omega⟩)]
          show _ = st5 [] (st [a, b])
          rw [st_e c2, show (a - 240) * 64 + b % 64 = (a - 240) * 64 + b - 128 by omega]
          rfl
  | [a, b'], h, hB, b, hb => by
    have hbeg : beg [a, b'] := h.resolve_left (by simp)
    by_cases c2 : a ≤ 239
    · have h' : 224 ≤ a ∧ a ≤ 239 ∧ lo3 a ≤ b' ∧ b' ≤ hi3 a := by rcases hbeg with h | h <;> first | exact h | omega
      have := lo3_ge a
      have := hi3_le a
      rw [st_d c2]
      refine ev_eq (DPut_gen ((a - 224) * 64 + b' - 128) 1 128 191 2 b (by omega) (by omega) (by omega) hb) ?_
      by_cases c : b < 128 ∨ b > 191
      · rw [if_pos c, refPut_bad (W := [a, b']) (by simp) (fun h : wh [a, b', b] => by have := (wh3_iff a b' b).1 h; omega) (fun h : beg [a, b', b] => by have := h.1; omega)]
      · rw [if_neg c, if_pos rfl, refPut_whole (W := [a, b']) (show wh [a, b', b] from ⟨h'.1, h'.2.1, h'.2.2.1, h'.2.2.2, by omega, by omega⟩)]
        show st5 _ _ = st5 [((a - 224) * 64 + b' - 128) * 64 + b - 128] _
        rw [show ((a - 224) * 64 + b' - 128) * 64 + b % 64 = ((a - 224) * 64 + b' - 128) * 64 + b - 128 by omega]
        rfl
    · have h' : 240 ≤ a ∧ a ≤ 244 ∧ lo4 a ≤ b' ∧ b' ≤ hi4 a := by rcases hbeg with h | h <;> first | exact h | omega
      have := lo4_ge a
      have := hi4_le a
      rw [st_e c2]
      refine ev_eq (DPut_gen ((a - 240) * 64 + b' - 128) 2 128 191 2 b (by omega) (by omega) (by omega) hb) ?_
      have nw : ¬ wh ([a, b'] ++ [b]) := fun h : wh [a, b', b] => by have := (wh3_iff a b' b).1 h; omega
      by_cases c : b < 128 ∨ b > 191
      · rw [if_pos c, refPut_bad (W := [a, b']) (by simp) nw (fun h : beg [a, b', b] => by have := h.2.2.2.2.1; have := h.2.2.2.2.2; omega)]
      · rw [if_neg c, if_neg (by decide), refPut_beg (W := [a, b']) nw (show beg [a, b', b] from ⟨h'.1, h'.2.1, h'.2.2.1, h'.2.2.2, by omega, by omega⟩)]
        show _ = st5 [] (st [a, b', b])
        rw [st_f, show ((a - 240) * 64 + b' - 128) * 64 + b % 64 = ((a - 240) * 64 + b' - 128) * 64 + b - 128 by omega]
        rfl
  | [a, b', c'], h, hB, b, hb => by
    have h' : 240 ≤ a ∧ a ≤ 244 ∧ lo4 a ≤ b' ∧ b' ≤ hi4 a ∧ 128 ≤ c' ∧ c' ≤ 191 := h.resolve_left (by simp)
    have := lo4_ge a
    have := hi4_le a
    rw [st_f]
    refine ev_eq (DPut_gen (((a - 240) * 64 + b' - 128) * 64 + c' - 128) 1 128 191 3 b (by omega) (by omega) (by omega) hb) ?_
    by_cases c : b < 128 ∨ b > 191
    · rw [if_pos c, refPut_bad (W := [a, b', c']) (by simp) (fun h : wh [a, b', c', b] => by have := (wh4_iff a b' c' b).1 h; omega) (fun h : beg [a, b', c', b] => h)]
    · rw [if_neg c, if_pos rfl, refPut_whole (W := [a, b', c']) (show wh [a, b', c', b] from ⟨h'.1, h'.2.1, h'.2.2.1, h'.2.2.2.1, h'.2.2.2.2.1, h'.2.2.2.2.2, by omega, by omega⟩)]
      show st5 _ _ = st5 [(((a - 240) * 64 + b' - 128) * 64 + c' - 128) * 64 + b - 128] _
      rw [show (((a - 240) * 64 + b' - 128) * 64 + c' - 128) * 64 + b % 64 = (((a - 240) * 64 + b' - 128) * 64 + c' - 128) * 64 + b - 128 by omega]
      rfl
  | _ :: _ :: _ :: _ :: _, h, _, _, _ => h.elim (fun h => by simp at h) (fun h => h.elim)
theorem ref1_inv (b : Int) (hb : 0 ≤ b ∧ b ≤ 255) : ((ref1 b).1 = [] ∨ beg (ref1 b).1) ∧ Bytes (ref1 b).1 := by
  unfold ref1
  split
  · exact ⟨.inl rfl, fun x hx => by simp at hx⟩
  · split
    · rename_i h
      exact ⟨.inr h, fun x hx => by simp at hx; omega⟩
    · exact ⟨.inl rfl, fun x hx => by simp at hx⟩
theorem refPut_inv (W : List Int) (hB : Bytes W) (b : Int) (hb : 0 ≤ b ∧ b ≤ 255) : ((refPut W b).1 = [] ∨ beg (refPut W b).1) ∧ Bytes (refPut W b).1 := by
  unfold refPut
  split
  · exact ⟨.inl rfl, fun x hx => by simp at hx⟩
  · split
    · rename_i h
      exact ⟨.inr h, hB.append (fun x hx => by simp at hx; omega)⟩
    · split
      · exact ⟨.inl rfl, fun x hx => by simp at hx⟩
      · exact ref1_inv b hb
theorem refPut_len (W : List Int) (b : Int) : (refPut W b).2.length ≤ 2 := by
  unfold refPut
  split
  · simp
  · split
    · simp
    · split
      · simp
      · have := ref1_len b
        simp
        omega
theorem beg_len : ∀ W, beg W → 1 ≤ W.length ∧ W.length ≤ 3
  | [], h => h.elim
  | [_], _ => by simp
  | [_, _], _ => by simp
  | [_, _, _], _ => by simp
  | _ :: _ :: _ :: _ :: _, h => h.elim
theorem inv_len {W : List Int} (h : W = [] ∨ beg W) : W.length ≤ 3 := by
  rcases h with rfl | h
  · simp
  · exact (beg_len W h).2
theorem st_need (W : List Int) (h : W = [] ∨ beg W) : ((st W).2.1 = 0 ↔ W = []) ∧ (st W).2.2.2.2 = (W.length : Int) := by
  match W, h with
  | [], _ => exact ⟨by simp [st], rfl⟩
  | [a], _ =>
    by_cases c1 : a ≤ 223
    · rw [st_a c1]
      simp
    · by_cases c2 : a ≤ 239
      · rw [st_b c1 c2]
        simp
      · rw [st_c c1 c2]
        simp
  | [a, b], _ =>
    by_cases c2 : a ≤ 239
    · rw [st_d c2]
      simp
    · rw [st_e c2]
      simp
  | [a, b, c], _ =>
    rw [st_f]
    simp
  | _ :: _ :: _ :: _ :: _, h => exact h.elim (fun h => by simp at h) (fun h => h.elim)
theorem End_f (W : List Int) (h : W = [] ∨ beg W) : runes_Decoder_End.f (st W).1 (st W).2.1 (st W).2.2.1 (st W).2.2.2.1 (st W).2.2.2.2 = some (if W = [] then st5 [] (st W) else st5 [65533] (0, 0, 0, 0, 0)) := by
  unfold runes_Decoder_End.f
  by_cases c : W = []
  · rw [if_pos ((st_need W h).1.2 c), if_pos c]
    rfl
  · rw [if_neg (fun e => c ((st_need W h).1.1 e)), if_neg c]
    rfl
/-- What bytes tell, with some that wait ahead. -/
def tells (W : List Int) : List Int → List Int
  | [] => if W = [] then [] else [65533]
  | b :: t => (refPut W b).2 ++ tells (refPut W b).1 t
theorem All_l0 (l : List Int) (hl : l.length ≤ 1000000) (hB : Bytes l) : ∀ (d i : Nat) (W o : List Int), l.length - i = d → i ≤ l.length → (W = [] ∨ beg W) → Bytes W → o.length ≤ 2 * i → Ev (fun k => runes_All.l0 k o l (l.length : Int) (i : Int) (st W).1 (st W).2.1 (st W).2.2.1 (st W).2.2.2.1 (st W).2.2.2.2) (o ++ tells W (l.drop i)) := by
  intro d
  induction d with
  | zero =>
    intro i W o hd hi hW hBW ho
    obtain rfl : i = l.length := by omega
    apply ev_succ
    simp only [runes_All.l0, if_neg (show ¬ ((l.length : Int) < (l.length : Int)) by omega), End_f W hW, Option.bind_some, List.drop_length, tells]
    by_cases c : W = []
    · simp only [if_pos c, st5, List.append_nil, List.length_nil, if_pos (show o.length + 0 < 35184372088832 by omega)]
      exact ev_some _
    · simp only [if_neg c, st5, if_pos (show o.length + ([65533] : List Int).length < 35184372088832 by simp; omega)]
      exact ev_some _
  | succ d ih =>
    intro i W o hd hi hW hBW ho
    have hlt : i < l.length := by omega
    have hw : wrap64 ((i : Int) + 1) = ((i + 1 : Nat) : Int) := by rw [w64 (by omega) (by omega)]; omega
    have hb := hB l[i] (List.getElem_mem hlt)
    have hp := refPut_len W l[i]
    obtain ⟨h1, h2⟩ := refPut_inv W hBW l[i] hb
    apply ev_succ
    simp only [runes_All.l0, if_pos (show (i : Int) < (l.length : Int) by omega), if_pos (show (0 : Int) ≤ (i : Int) by omega), rd_lt hlt]
    refine ev_bind (DPut_ev W hW hBW l[i] hb) ?_
    simp only [st5, if_pos (show o.length + (refPut W l[i]).2.length < 35184372088832 by omega), hw]
    refine ev_eq (ih (i + 1) _ _ (by omega) (by omega) h1 h2 (by rw [List.length_append]; omega)) ?_
    rw [List.drop_eq_getElem_cons hlt, tells, List.append_assoc]
theorem All_ev (l : List Int) (hl : l.length ≤ 1000000) (hB : Bytes l) : Ev (fun k => runes_All.f k l) (tells [] l) := by
  unfold runes_All.f
  have := All_l0 l hl hB l.length 0 [] [] (by omega) (by omega) (.inl rfl) (fun x hx => by simp at hx) (by simp)
  exact this
theorem awake08 : Ev (fun k => batonlaw08_awake.f k) true := by
  unfold batonlaw08_awake.f
  refine ev_bind (All_ev [226, 130, 65] (by simp) (fun x hx => by simp at hx; omega)) ?_
  rw [show tells [] [226, 130, 65] = [65533, 65] from by decide]
  exact ev_some _

/-! #### a sign's own bytes -/
theorem whenc (c : Int) (h : sign c) : wh (enc c) ∧ cp (enc c) = c := by
  have h0 := h
  unfold sign at h0
  unfold enc
  by_cases c1 : c < 128
  · rw [if_pos c1]
    exact ⟨c1, rfl⟩
  · rw [if_neg c1]
    by_cases c2 : c < 2048
    · rw [if_pos c2]
      exact ⟨⟨by omega, by omega, by omega, by omega⟩, by show (192 + c / 64 - 192) * 64 + (128 + c % 64) - 128 = c; omega⟩
    · rw [if_neg c2]
      by_cases c3 : c < 65536
      · rw [if_pos c3]
        have hcp : cp [224 + c / 4096, 128 + c / 64 % 64, 128 + c % 64] = c := by
          show ((224 + c / 4096 - 224) * 64 + (128 + c / 64 % 64) - 128) * 64 + (128 + c % 64) - 128 = c
          omega
        refine ⟨(enc3 _ _ _ (by omega) (by omega) (by omega)).1 ⟨by rw [hcp]; exact h, ?_⟩, hcp⟩
        rw [hcp]
        unfold enc
        rw [if_neg c1, if_neg c2, if_pos c3]
      · rw [if_neg c3]
        have hcp : cp [240 + c / 262144, 128 + c / 4096 % 64, 128 + c / 64 % 64, 128 + c % 64] = c := by
          show (((240 + c / 262144 - 240) * 64 + (128 + c / 4096 % 64) - 128) * 64 + (128 + c / 64 % 64) - 128) * 64 + (128 + c % 64) - 128 = c
          omega
        refine ⟨(enc4 _ _ _ _ (by omega) (by omega) (by omega) (by omega)).1 ⟨by rw [hcp]; exact h, ?_⟩, hcp⟩
        rw [hcp]
        unfold enc
        rw [if_neg c1, if_neg c2, if_neg c3]
theorem enc_bytes (c : Int) (h : sign c) : Bytes (enc c) := by
  unfold sign at h
  unfold enc
  intro x hx
  by_cases c1 : c < 128
  · rw [if_pos c1] at hx
    simp at hx
    omega
  · rw [if_neg c1] at hx
    by_cases c2 : c < 2048
    · rw [if_pos c2] at hx
      simp at hx
      omega
    · rw [if_neg c2] at hx
      by_cases c3 : c < 65536
      · rw [if_pos c3] at hx
        simp at hx
        omega
      · rw [if_neg c3] at hx
        simp at hx
        omega
theorem sign65533 : sign 65533 := by decide
theorem enc'_bytes (c : Int) : Bytes (enc' c) := by
  unfold enc'
  split
  · rename_i h
    exact enc_bytes c h
  · exact enc_bytes _ sign65533
theorem enc'_len (c : Int) : (enc' c).length ≤ 4 := by
  unfold enc'
  split <;> exact enc_len _
theorem enc8_eq (c : Int) (h : sign c) : enc8 c = enc c := by
  have hv : Utf8.valid c = true := by
    rw [validRune_eq]
    unfold sign at h
    exact decide_eq_true (by omega)
  unfold enc8 Utf8.encode enc
  simp only [hv, if_true]
  obtain ⟨n, rfl⟩ : ∃ n : Nat, c = n := ⟨c.toNat, by unfold sign at h; omega⟩
  simp only [Int.toNat_natCast]
  unfold sign at h
  by_cases c1 : n < 128
  · rw [if_pos c1, if_pos (by omega)]
    simp
    omega
  · rw [if_neg c1, if_neg (show ¬ (n : Int) < 128 by omega)]
    by_cases c2 : n < 2048
    · rw [if_pos c2, if_pos (show (n : Int) < 2048 by omega)]
      simp
      omega
    · rw [if_neg c2, if_neg (show ¬ (n : Int) < 2048 by omega)]
      by_cases c3 : n < 65536
      · rw [if_pos c3, if_pos (show (n : Int) < 65536 by omega)]
        simp
        omega
      · rw [if_neg c3, if_neg (show ¬ (n : Int) < 65536 by omega)]
        simp
        omega
theorem RBytes_f (c : Int) : runes_Bytes.f c = some (enc' c) := by
  unfold runes_Bytes.f enc'
  by_cases h : sign c
  · rw [if_pos h, if_neg (by unfold sign at h; omega), enc8_eq c h]
  · rw [if_neg h, if_pos (by unfold sign at h; omega), enc8_eq _ sign65533]

end Go.Proofs.Ytkckojgjkmcokaa.LF08B
