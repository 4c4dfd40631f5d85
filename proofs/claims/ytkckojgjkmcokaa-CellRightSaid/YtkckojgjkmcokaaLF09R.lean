/- Plain lemmas on the functions of this family (CellRight): what each loop comes to. No condition. -/
import Derived.Test.YtkckojgjkmcokaaBase
import Derived.Test.YtkckojgjkmcokaaPF09Rx
namespace Go.Proofs.Ytkckojgjkmcokaa.LF09R
open Go.RowKit Go.Proofs.Ytkckojgjkmcokaa.Base Go.Proofs.YtkckojgjkmcokaaW.PrintWords Go.Proofs.YtkckojgjkmcokaaW.PrintMore Go.Proofs.Ytkckojgjkmcokaa.PF09R
set_option linter.unusedVariables false
set_option linter.unusedSimpArgs false

/-! ### cells and runs of cells -/
theorem rd53 (l : List S53) (i : Nat) (h : i < l.length) : rd_T53 l (i : Int) = l[i] := by
  unfold rd_T53
  simp [List.getD_eq_getElem?_getD, h]
theorem eqc (a b : S53) : (a.f0 == b.f0 && (a.f1.f0 == b.f1.f0 && (a.f1.f1 == b.f1.f1 && (a.f1.f2 == b.f1.f2)))) = true ↔ a = b := by
  obtain ⟨a0, a1, a2, a3⟩ := a
  obtain ⟨b0, b1, b2, b3⟩ := b
  simp
theorem eqc_ne {a b : S53} (h : a ≠ b) : (a.f0 == b.f0 && (a.f1.f0 == b.f1.f0 && (a.f1.f1 == b.f1.f1 && (a.f1.f2 == b.f1.f2)))) = false := Bool.eq_false_iff.2 (fun e => h ((eqc a b).1 e))
theorem neqc (a b : S53) : (!(a.f0 == b.f0) || (!(a.f1.f0 == b.f1.f0) || (!(a.f1.f1 == b.f1.f1) || !(a.f1.f2 == b.f1.f2)))) = true ↔ a ≠ b := by
  rw [← Bool.not_and, ← Bool.not_and, ← Bool.not_and, Bool.not_eq_true', Bool.eq_false_iff]
  exact not_congr (eqc a b)
theorem neqc_self (a : S53) : (!(a.f0 == a.f0) || (!(a.f1.f0 == a.f1.f0) || (!(a.f1.f1 == a.f1.f1) || !(a.f1.f2 == a.f1.f2)))) = false := by simp
theorem awake09_runs : cell_Runs.f 8 [(⟨97, (⟨0, 0, 0⟩ : S51)⟩ : S53), (⟨97, (⟨0, 0, 0⟩ : S51)⟩ : S53), (⟨98, (⟨0, 0, 0⟩ : S51)⟩ : S53)] = some [(⟨2,(⟨97, (⟨0, 0, 0⟩ : S51)⟩ : S53)⟩ : S55), (⟨1, (⟨98, (⟨0, 0, 0⟩ : S51)⟩ : S53)⟩ : S55)] := by
  simp [cell_Runs.f, cell_Runs.l0, rd_T53, rd_T55, wrap64]
theorem awake09 : Ev (fun k => batonlaw09_awake.f k) true := Ev.of (fun k => batonlaw09_awake.mono k) (k := 8) (by unfold batonlaw09_awake.f; rw [awake09_runs]; decide)

/-! ### signs: the document's answer -/
def lo3 (a : Int) : Int := if a = 224 then 160 else 128
def hi3 (a : Int) : Int := if a = 237 then 159 else 191
def lo4 (a : Int) : Int := if a = 240 then 144 else 128
def hi4 (a : Int) : Int := if a = 244 then 143 else 191
def sign (c : Int) : Prop := 0 ≤ c ∧ c ≤ 1114111 ∧ (c < 55296 ∨ c > 57343)
instance (c : Int) : Decidable (sign c) := by unfold sign; infer_instance
def enc (c : Int) : List Int :=
  if c < 128 then [c] else if c < 2048 then [192 + c / 64, 128 + c % 64] else if c < 65536 then [224 + c / 4096, 128 + c / 64 % 64, 128 + c % 64]
  else [240 + c / 262144, 128 + c / 4096 % 64, 128 + c / 64 % 64, 128 + c % 64]
/-- Are bytes a sign? -/
def wh : List Int → Prop
  | [a] => a < 128
  | [a, b] => 194 ≤ a ∧ a ≤ 223 ∧ 128 ≤ b ∧ b ≤ 191
  | [a, b, c] => 224 ≤ a ∧ a ≤ 239 ∧ lo3 a ≤ b ∧ b ≤ hi3 a ∧ 128 ≤ c ∧ c ≤ 191
  | [a, b, c, d] => 240 ≤ a ∧ a ≤ 244 ∧ lo4 a ≤ b ∧ b ≤ hi4 a ∧ 128 ≤ c ∧ c ≤ 191 ∧ 128 ≤ d ∧ d ≤ 191
  | _ => False
instance : (x : List Int) → Decidable (wh x)
  | [] => isFalse id
  | [a] => by unfold wh; infer_instance
  | [a, b] => by unfold wh; infer_instance
  | [a, b, c] => by unfold wh; infer_instance
  | [a, b, c, d] => by unfold wh; infer_instance
  | _ :: _ :: _ :: _ :: _ :: _ => isFalse id
def cp : List Int → Int
  | [a] => a
  | [a, b] => (a - 192) * 64 + b - 128
  | [a, b, c] => ((a - 224) * 64 + b - 128) * 64 + c - 128
  | [a, b, c, d] => (((a - 240) * 64 + b - 128) * 64 + c - 128) * 64 + d - 128
  | _ => 0
/-- May bytes go on to a sign? -/
def beg : List Int → Prop
  | [a] => 194 ≤ a ∧ a ≤ 244
  | [a, b] => (224 ≤ a ∧ a ≤ 239 ∧ lo3 a ≤ b ∧ b ≤ hi3 a) ∨ (240 ≤ a ∧ a ≤ 244 ∧ lo4 a ≤ b ∧ b ≤ hi4 a)
  | [a, b, c] => 240 ≤ a ∧ a ≤ 244 ∧ lo4 a ≤ b ∧ b ≤ hi4 a ∧ 128 ≤ c ∧ c ≤ 191
  | _ => False
instance : (x : List Int) → Decidable (beg x)
  | [] => isFalse id
  | [a] => by unfold beg; infer_instance
  | [a, b] => by unfold beg; infer_instance
  | [a, b, c] => by unfold beg; infer_instance
  | _ :: _ :: _ :: _ :: _ => isFalse id
theorem lo3_ge (a : Int) : 128 ≤ lo3 a ∧ lo3 a ≤ 160 := by unfold lo3; split <;> omega
theorem hi3_le (a : Int) : hi3 a ≤ 191 ∧ 159 ≤ hi3 a := by unfold hi3; split <;> omega
theorem lo4_ge (a : Int) : 128 ≤ lo4 a ∧ lo4 a ≤ 144 := by unfold lo4; split <;> omega
theorem hi4_le (a : Int) : hi4 a ≤ 191 ∧ 143 ≤ hi4 a := by unfold hi4; split <;> omega
theorem enc1 (a : Int) (ha : 0 ≤ a ∧ a ≤ 255) : (sign a ∧ enc a = [a]) ↔ wh [a] := by
  show (sign a ∧ enc a = [a]) ↔ a < 128
  unfold sign enc
  constructor
  · rintro ⟨_, h⟩
    split at h
    · assumption
    · split at h
      · simp at h
      · split at h <;> simp at h
  · intro h
    rw [if_pos h]
    exact ⟨by omega, rfl⟩
theorem enc2 (a b : Int) (ha : 0 ≤ a ∧ a ≤ 255) (hb : 0 ≤ b ∧ b ≤ 255) : (sign (cp [a, b]) ∧ enc (cp [a, b]) = [a, b]) ↔ wh [a, b] := by
  show (sign ((a - 192) * 64 + b - 128) ∧ enc ((a - 192) * 64 + b - 128) = [a, b]) ↔ (194 ≤ a ∧ a ≤ 223 ∧ 128 ≤ b ∧ b ≤ 191)
  unfold sign enc
  constructor
  · rintro ⟨_, h⟩
    split at h
    · simp at h
    · split at h
      · simp only [List.cons.injEq, and_true] at h
        omega
      · split at h <;> simp at h
  · intro h
    rw [if_neg (by omega), if_pos (by omega)]
    refine ⟨by omega, ?_⟩
    simp only [List.cons.injEq, and_true]
    omega
theorem enc3 (a b c : Int) (ha : 0 ≤ a ∧ a ≤ 255) (hb : 0 ≤ b ∧ b ≤ 255) (hc : 0 ≤ c ∧ c ≤ 255) : (sign (cp [a, b, c]) ∧ enc (cp [a, b, c]) = [a, b, c]) ↔ wh [a, b, c] := by
  show (sign (((a - 224) * 64 + b - 128) * 64 + c - 128) ∧ enc (((a - 224) * 64 + b - 128) * 64 + c - 128) = [a, b, c]) ↔ (224 ≤ a ∧ a ≤ 239 ∧ (if a = 224 then 160 else 128) ≤ b ∧ b ≤ (if a = 237 then 159 else 191) ∧ 128 ≤ c ∧ c ≤ 191)
  unfold sign enc
  constructor
  · rintro ⟨_, h⟩
    split at h
    · simp at h
    · split at h
      · simp at h
      · split at h
        · simp only [List.cons.injEq, and_true] at h
          split <;> split <;> omega
        · simp at h
  · intro h
    rw [if_neg (by split at h <;> split at h <;> omega), if_neg (by split at h <;> split at h <;> omega), if_pos (by omega)]
    refine ⟨by split at h <;> split at h <;> omega, ?_⟩
    simp only [List.cons.injEq, and_true]
    split at h <;> split at h <;> omega
theorem enc4 (a b c d : Int) (ha : 0 ≤ a ∧ a ≤ 255) (hb : 0 ≤ b ∧ b ≤ 255) (hc : 0 ≤ c ∧ c ≤ 255) (hd : 0 ≤ d ∧ d ≤ 255) : (sign (cp [a, b, c, d]) ∧ enc (cp [a, b, c, d]) = [a, b, c, d]) ↔ wh [a, b, c, d] := by
  show (sign ((((a - 240) * 64 + b - 128) * 64 + c - 128) * 64 + d - 128) ∧ enc ((((a - 240) * 64 + b - 128) * 64 + c - 128) * 64 + d - 128) = [a, b, c, d]) ↔ (240 ≤ a ∧ a ≤ 244 ∧ (if a = 240 then 144 else 128) ≤ b ∧ b ≤ (if a = 244 then 143 else 191) ∧ 128 ≤ c ∧ c ≤ 191 ∧ 128 ≤ d ∧ d ≤ 191)
  unfold sign enc
  constructor
  · rintro ⟨_, h⟩
    split at h
    · simp at h
    · split at h
      · simp at h
      · split at h
        · simp at h
        · simp only [List.cons.injEq, and_true] at h
          split <;> split <;> omega
  · intro h
    rw [if_neg (by split at h <;> split at h <;> omega), if_neg (by split at h <;> split at h <;> omega), if_neg (by split at h <;> split at h <;> omega)]
    refine ⟨by split at h <;> split at h <;> omega, ?_⟩
    simp only [List.cons.injEq, and_true]
    split at h <;> split at h <;> omega
theorem Sign_f (c : Int) : batonref08_Sign.f c = some (decide (sign c)) := by
  unfold batonref08_Sign.f sign
  by_cases h1 : c ≥ 0
  · rw [if_pos h1]
    by_cases h2 : c ≤ 1114111
    · rw [if_pos h2]
      by_cases h3 : c < 55296
      · rw [if_pos h3]
        simp
        omega
      · rw [if_neg h3]
        exact congrArg some (decide_eq_decide.2 ⟨fun h => by omega, fun h => by omega⟩)
    · rw [if_neg h2]
      simp
      omega
  · rw [if_neg h1]
    simp
    omega
theorem enc_len (c : Int) : (enc c).length ≤ 4 := by
  unfold enc
  split
  · simp
  · split
    · simp
    · split <;> simp
def enc' (c : Int) : List Int := if sign c then enc c else enc 65533
theorem cp_nonneg : ∀ x, Bytes x → wh x → 0 ≤ cp x
  | [], _, h => h.elim
  | [a], hb, h => (hb a (by simp)).1
  | [a, b], hb, h => by
    have h2 : 194 ≤ a ∧ a ≤ 223 ∧ 128 ≤ b ∧ b ≤ 191 := h
    show 0 ≤ (a - 192) * 64 + b - 128
    omega
  | [a, b, c], hb, h => by
    have h2 : 224 ≤ a ∧ a ≤ 239 ∧ lo3 a ≤ b ∧ b ≤ hi3 a ∧ 128 ≤ c ∧ c ≤ 191 := h
    have := lo3_ge a
    show 0 ≤ ((a - 224) * 64 + b - 128) * 64 + c - 128
    omega
  | [a, b, c, d], hb, h => by
    have h2 : 240 ≤ a ∧ a ≤ 244 ∧ lo4 a ≤ b ∧ b ≤ hi4 a ∧ 128 ≤ c ∧ c ≤ 191 ∧ 128 ≤ d ∧ d ≤ 191 := h
    have := lo4_ge a
    show 0 ≤ (((a - 240) * 64 + b - 128) * 64 + c - 128) * 64 + d - 128
    omega
  | _ :: _ :: _ :: _ :: _ :: _, _, h => h.elim
theorem wh2_iff (a b : Int) : wh [a, b] ↔ (194 ≤ a ∧ a ≤ 223 ∧ 128 ≤ b ∧ b ≤ 191) := Iff.rfl
theorem wh3_iff (a b c : Int) : wh [a, b, c] ↔ (224 ≤ a ∧ a ≤ 239 ∧ lo3 a ≤ b ∧ b ≤ hi3 a ∧ 128 ≤ c ∧ c ≤ 191) := Iff.rfl
theorem wh4_iff (a b c d : Int) : wh [a, b, c, d] ↔ (240 ≤ a ∧ a ≤ 244 ∧ lo4 a ≤ b ∧ b ≤ hi4 a ∧ 128 ≤ c ∧ c ≤ 191 ∧ 128 ≤ d ∧ d ≤ 191) := Iff.rfl
/-! #### Put -/
def ref1 (b : Int) : List Int × List Int := if wh [b] then ([], [b]) else if beg [b] then ([b], []) else ([], [65533])
def refPut (W : List Int) (b : Int) : List Int × List Int :=
  if wh (W ++ [b]) then ([], [cp (W ++ [b])]) else if beg (W ++ [b]) then (W ++ [b], []) else if W = [] then ([], [65533]) else ((ref1 b).1, 65533 :: (ref1 b).2)
theorem refPut_nil (b : Int) : refPut [] b = ref1 b := by
  unfold refPut ref1
  simp only [List.nil_append, if_true]
  rfl
theorem ref1_len (b : Int) : (ref1 b).2.length ≤ 1 := by
  unfold ref1
  split
  · simp
  · split <;> simp

/-! #### a sign's own bytes -/
theorem whenc (c : Int) (h : sign c) : wh (enc c) ∧ cp (enc c) = c := by
  have h0 := h
  unfold sign at h0
  unfold enc
  by_cases c1 : c < 128
  · rw [if_pos c1]
    exact ⟨c1, rfl⟩
  · rw [if_neg c1]
    by_cases c2 : c < 2048
    · rw [if_pos c2]
      exact ⟨⟨by omega, by omega, by omega, by omega⟩, by show (192 + c / 64 - 192) * 64 + (128 + c % 64) - 128 = c; omega⟩
    · rw [if_neg c2]
      by_cases c3 : c < 65536
      · rw [if_pos c3]
        have hcp : cp [224 + c / 4096, 128 + c / 64 % 64, 128 + c % 64] = c := by
          show ((224 + c / 4096 - 224) * 64 + (128 + c / 64 % 64) - 128) * 64 + (128 + c % 64) - 128 = c
          omega
        refine ⟨(enc3 _ _ _ (by omega) (by omega) (by omega)).1 ⟨by rw [hcp]; exact h, ?_⟩, hcp⟩
        rw [hcp]
        unfold enc
        rw [if_neg c1, if_neg c2, if_pos c3]
      · rw [if_neg c3]
        have hcp : cp [240 + c / 262144, 128 + c / 4096 % 64, 128 + c / 64 % 64, 128 + c % 64] = c := by
          show (((240 + c / 262144 - 240) * 64 + (128 + c / 4096 % 64) - 128) * 64 + (128 + c / 64 % 64) - 128) * 64 + (128 + c % 64) - 128 = c
          omega
        refine ⟨(enc4 _ _ _ _ (by omega) (by omega) (by omega) (by omega)).1 ⟨by rw [hcp]; exact h, ?_⟩, hcp⟩
        rw [hcp]
        unfold enc
        rw [if_neg c1, if_neg c2, if_neg c3]
theorem enc_bytes (c : Int) (h : sign c) : Bytes (enc c) := by
  unfold sign at h
  unfold enc
  intro x hx
  by_cases c1 : c < 128
  · rw [if_pos c1] at hx
    simp at hx
    omega
  · rw [if_neg c1] at hx
    by_cases c2 : c < 2048
    · rw [if_pos c2] at hx
      simp at hx
      omega
    · rw [if_neg c2] at hx
      by_cases c3 : c < 65536
      · rw [if_pos c3] at hx
        simp at hx
        omega
      · rw [if_neg c3] at hx
        simp at hx
        omega
theorem sign65533 : sign 65533 := by decide
theorem enc'_bytes (c : Int) : Bytes (enc' c) := by
  unfold enc'
  split
  · rename_i h
    exact enc_bytes c h
  · exact enc_bytes _ sign65533
theorem enc'_len (c : Int) : (enc' c).length ≤ 4 := by
  unfold enc'
  split <;> exact enc_len _
theorem enc8_eq (c : Int) (h : sign c) : enc8 c = enc c := by
  have hv : Utf8.valid c = true := by
    rw [validRune_eq]
    unfold sign at h
    exact decide_eq_true (by omega)
  unfold enc8 Utf8.encode enc
  simp only [hv, if_true]
  obtain ⟨n, rfl⟩ : ∃ n : Nat, c = n := ⟨c.toNat, by unfold sign at h; omega⟩
  simp only [Int.toNat_natCast]
  unfold sign at h
  by_cases c1 : n < 128
  · rw [if_pos c1, if_pos (by omega)]
    simp
    omega
  · rw [if_neg c1, if_neg (show ¬ (n : Int) < 128 by omega)]
    by_cases c2 : n < 2048
    · rw [if_pos c2, if_pos (show (n : Int) < 2048 by omega)]
      simp
      omega
    · rw [if_neg c2, if_neg (show ¬ (n : Int) < 2048 by omega)]
      by_cases c3 : n < 65536
      · rw [if_pos c3, if_pos (show (n : Int) < 65536 by omega)]
        simp
        omega
      · rw [if_neg c3, if_neg (show ¬ (n : Int) < 65536 by omega)]
        simp
        omega
theorem RBytes_f (c : Int) : runes_Bytes.f c = some (enc' c) := by
  unfold runes_Bytes.f enc'
  by_cases h : sign c
  · rw [if_pos h, if_neg (by unfold sign at h; omega), enc8_eq c h]
  · rw [if_neg h, if_pos (by unfold sign at h; omega), enc8_eq _ sign65533]

end Go.Proofs.Ytkckojgjkmcokaa.LF09R
