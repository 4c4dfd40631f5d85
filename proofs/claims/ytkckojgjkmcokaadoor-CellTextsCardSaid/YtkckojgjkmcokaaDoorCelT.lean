/- CellTexts: the plain law: the text of any cells is their signs, without blanks at the end. No condition beside the sizes that the row itself gives. -/
import Derived.Test.YtkckojgjkmcokaaDoorBase
import Derived.Test.YtkckojgjkmcokaaDoorPF09Tx4
namespace Go.Proofs.YtkckojgjkmcokaaDoor.LF09T
open Go.RowKit Go.Proofs.YtkckojgjkmcokaaDoor.Base Go.Proofs.YtkckojgjkmcokaaDoorW.PrintWords Go.Proofs.YtkckojgjkmcokaaDoorW.PrintMore Go.Proofs.YtkckojgjkmcokaaDoor.PF09T
set_option linter.unusedVariables false
set_option linter.unusedSimpArgs false
/-! ### cells and runs of cells -/
theorem rd53 (l : List S27) (i : Nat) (h : i < l.length) : rd_T27 l (i : Int) = l[i] := by
  unfold rd_T27
  simp [List.getD_eq_getElem?_getD, h]
theorem eqc (a b : S27) : (a.f0 == b.f0 && (a.f1.f0 == b.f1.f0 && (a.f1.f1 == b.f1.f1 && (a.f1.f2 == b.f1.f2)))) = true ↔ a = b := by
  obtain ⟨a0, a1, a2, a3⟩ := a
  obtain ⟨b0, b1, b2, b3⟩ := b
  simp
theorem eqc_ne {a b : S27} (h : a ≠ b) : (a.f0 == b.f0 && (a.f1.f0 == b.f1.f0 && (a.f1.f1 == b.f1.f1 && (a.f1.f2 == b.f1.f2)))) = false := Bool.eq_false_iff.2 (fun e => h ((eqc a b).1 e))
theorem neqc (a b : S27) : (!(a.f0 == b.f0) || (!(a.f1.f0 == b.f1.f0) || (!(a.f1.f1 == b.f1.f1) || !(a.f1.f2 == b.f1.f2)))) = true ↔ a ≠ b := by
  rw [← Bool.not_and, ← Bool.not_and, ← Bool.not_and, Bool.not_eq_true', Bool.eq_false_iff]
  exact not_congr (eqc a b)
theorem neqc_self (a : S27) : (!(a.f0 == a.f0) || (!(a.f1.f0 == a.f1.f0) || (!(a.f1.f1 == a.f1.f1) || !(a.f1.f2 == a.f1.f2)))) = false := by simp
theorem awake09_runs : cell_Runs.f 8 [(⟨97, (⟨0, 0, 0⟩ : S25)⟩ : S27), (⟨97, (⟨0, 0, 0⟩ : S25)⟩ : S27), (⟨98, (⟨0, 0, 0⟩ : S25)⟩ : S27)] = some [(⟨2,(⟨97, (⟨0, 0, 0⟩ : S25)⟩ : S27)⟩ : S35), (⟨1, (⟨98, (⟨0, 0, 0⟩ : S25)⟩ : S27)⟩ : S35)] := by
  simp [cell_Runs.f, cell_Runs.l0, rd_T27, rd_T35, wrap64]
theorem awake09 : Ev (fun k => batonlaw09_awake.f k) true := Ev.of (fun k => batonlaw09_awake.mono k) (k := 8) (by unfold batonlaw09_awake.f; rw [awake09_runs]; decide)
/-! ### signs: the document's answer -/
def lo3 (a : Int) : Int := if a = 224 then 160 else 128
def hi3 (a : Int) : Int := if a = 237 then 159 else 191
def lo4 (a : Int) : Int := if a = 240 then 144 else 128
def hi4 (a : Int) : Int := if a = 244 then 143 else 191
def sign (c : Int) : Prop := 0 ≤ c ∧ c ≤ 1114111 ∧ (c < 55296 ∨ c > 57343)
instance (c : Int) : Decidable (sign c) := by unfold sign; infer_instance
def enc (c : Int) : List Int :=
  if c < 128 then [c] else if c < 2048 then [192 + c / 64, 128 + c % 64] else if c < 65536 then [224 + c / 4096, 128 + c / 64 % 64, 128 + c % 64]
  else [240 + c / 262144, 128 + c / 4096 % 64, 128 + c / 64 % 64, 128 + c % 64]
/-- Are bytes a sign? -/
def wh : List Int → Prop
  | [a] => a < 128
  | [a, b] => 194 ≤ a ∧ a ≤ 223 ∧ 128 ≤ b ∧ b ≤ 191
  | [a, b, c] => 224 ≤ a ∧ a ≤ 239 ∧ lo3 a ≤ b ∧ b ≤ hi3 a ∧ 128 ≤ c ∧ c ≤ 191
  | [a, b, c, d] => 240 ≤ a ∧ a ≤ 244 ∧ lo4 a ≤ b ∧ b ≤ hi4 a ∧ 128 ≤ c ∧ c ≤ 191 ∧ 128 ≤ d ∧ d ≤ 191
  | _ => False
instance : (x : List Int) → Decidable (wh x)
  | [] => isFalse id
  | [a] => by unfold wh; infer_instance
  | [a, b] => by unfold wh; infer_instance
  | [a, b, c] => by unfold wh; infer_instance
  | [a, b, c, d] => by unfold wh; infer_instance
  | _ :: _ :: _ :: _ :: _ :: _ => isFalse id
def cp : List Int → Int
  | [a] => a
  | [a, b] => (a - 192) * 64 + b - 128
  | [a, b, c] => ((a - 224) * 64 + b - 128) * 64 + c - 128
  | [a, b, c, d] => (((a - 240) * 64 + b - 128) * 64 + c - 128) * 64 + d - 128
  | _ => 0
/-- May bytes go on to a sign? -/
def beg : List Int → Prop
  | [a] => 194 ≤ a ∧ a ≤ 244
  | [a, b] => (224 ≤ a ∧ a ≤ 239 ∧ lo3 a ≤ b ∧ b ≤ hi3 a) ∨ (240 ≤ a ∧ a ≤ 244 ∧ lo4 a ≤ b ∧ b ≤ hi4 a)
  | [a, b, c] => 240 ≤ a ∧ a ≤ 244 ∧ lo4 a ≤ b ∧ b ≤ hi4 a ∧ 128 ≤ c ∧ c ≤ 191
  | _ => False
instance : (x : List Int) → Decidable (beg x)
  | [] => isFalse id
  | [a] => by unfold beg; infer_instance
  | [a, b] => by unfold beg; infer_instance
  | [a, b, c] => by unfold beg; infer_instance
  | _ :: _ :: _ :: _ :: _ => isFalse id
theorem lo3_ge (a : Int) : 128 ≤ lo3 a ∧ lo3 a ≤ 160 := by unfold lo3; split <;> omega
theorem hi3_le (a : Int) : hi3 a ≤ 191 ∧ 159 ≤ hi3 a := by unfold hi3; split <;> omega
theorem lo4_ge (a : Int) : 128 ≤ lo4 a ∧ lo4 a ≤ 144 := by unfold lo4; split <;> omega
theorem hi4_le (a : Int) : hi4 a ≤ 191 ∧ 143 ≤ hi4 a := by unfold hi4; split <;> omega
theorem enc1 (a : Int) (ha : 0 ≤ a ∧ a ≤ 255) : (sign a ∧ enc a = [a]) ↔ wh [a] := by
  show (sign a ∧ enc a = [a]) ↔ a < 128
  unfold sign enc
  constructor
  · rintro ⟨_, h⟩
    split at h
    · assumption
    · split at h
      · simp at h
      · split at h <;> simp at h
  · intro h
    rw [if_pos h]
    exact ⟨by omega, rfl⟩
theorem enc2 (a b : Int) (ha : 0 ≤ a ∧ a ≤ 255) (hb : 0 ≤ b ∧ b ≤ 255) : (sign (cp [a, b]) ∧ enc (cp [a, b]) = [a, b]) ↔ wh [a, b] := by
  show (sign ((a - 192) * 64 + b - 128) ∧ enc ((a - 192) * 64 + b - 128) = [a, b]) ↔ (194 ≤ a ∧ a ≤ 223 ∧ 128 ≤ b ∧ b ≤ 191)
  unfold sign enc
  constructor
  · rintro ⟨_, h⟩
    split at h
    · simp at h
    · split at h
      · simp only [List.cons.injEq, and_true] at h
        omega
      · split at h <;> simp at h
  · intro h
    rw [if_neg (by omega), if_pos (by omega)]
    refine ⟨by omega, ?_⟩
    simp only [List.cons.injEq, and_true]
    omega
theorem enc3 (a b c : Int) (ha : 0 ≤ a ∧ a ≤ 255) (hb : 0 ≤ b ∧ b ≤ 255) (hc : 0 ≤ c ∧ c ≤ 255) : (sign (cp [a, b, c]) ∧ enc (cp [a, b, c]) = [a, b, c]) ↔ wh [a, b, c] := by
  show (sign (((a - 224) * 64 + b - 128) * 64 + c - 128) ∧ enc (((a - 224) * 64 + b - 128) * 64 + c - 128) = [a, b, c]) ↔ (224 ≤ a ∧ a ≤ 239 ∧ (if a = 224 then 160 else 128) ≤ b ∧ b ≤ (if a = 237 then 159 else 191) ∧ 128 ≤ c ∧ c ≤ 191)
  unfold sign enc
  constructor
  · rintro ⟨_, h⟩
    split at h
    · simp at h
    · split at h
      · simp at h
      · split at h
        · simp only [List.cons.injEq, and_true] at h
          split <;> split <;> omega
        · simp at h
  · intro h
    rw [if_neg (by split at h <;> split at h <;> omega), if_neg (by split at h <;> split at h <;> omega), if_pos (by omega)]
    refine ⟨by split at h <;> split at h <;> omega, ?_⟩
    simp only [List.cons.injEq, and_true]
    split at h <;> split at h <;> omega
theorem enc4 (a b c d : Int) (ha : 0 ≤ a ∧ a ≤ 255) (hb : 0 ≤ b ∧ b ≤ 255) (hc : 0 ≤ c ∧ c ≤ 255) (hd : 0 ≤ d ∧ d ≤ 255) : (sign (cp [a, b, c, d]) ∧ enc (cp [a, b, c, d]) = [a, b, c, d]) ↔ wh [a, b, c, d] := by
  show (sign ((((a - 240) * 64 + b - 128) * 64 + c - 128) * 64 + d - 128) ∧ enc ((((a - 240) * 64 + b - 128) * 64 + c - 128) * 64 + d - 128) = [a, b, c, d]) ↔ (240 ≤ a ∧ a ≤ 244 ∧ (if a = 240 then 144 else 128) ≤ b ∧ b ≤ (if a = 244 then 143 else 191) ∧ 128 ≤ c ∧ c ≤ 191 ∧ 128 ≤ d ∧ d ≤ 191)
  unfold sign enc
  constructor
  · rintro ⟨_, h⟩
    split at h
    · simp at h
    · split at h
      · simp at h
      · split at h
        · simp at h
        · simp only [List.cons.injEq, and_true] at h
          split <;> split <;> omega
  · intro h
    rw [if_neg (by split at h <;> split at h <;> omega), if_neg (by split at h <;> split at h <;> omega), if_neg (by split at h <;> split at h <;> omega)]
    refine ⟨by split at h <;> split at h <;> omega, ?_⟩
    simp only [List.cons.injEq, and_true]
    split at h <;> split at h <;> omega
theorem Sign_f (c : Int) : batonref08_Sign.f c = some (decide (sign c)) := by
  unfold batonref08_Sign.f sign
  by_cases h1 : c ≥ 0
  · rw [if_pos h1]
    by_cases h2 : c ≤ 1114111
    · rw [if_pos h2]
      by_cases h3 : c < 55296
      · rw [if_pos h3]
        simp
        omega
      · rw [if_neg h3]
        exact congrArg some (decide_eq_decide.2 ⟨fun h => by omega, fun h => by omega⟩)
    · rw [if_neg h2]
      simp
      omega
  · rw [if_neg h1]
    simp
    omega
theorem enc_len (c : Int) : (enc c).length ≤ 4 := by
  unfold enc
  split
  · simp
  · split
    · simp
    · split <;> simp
def enc' (c : Int) : List Int := if sign c then enc c else enc 65533
theorem cp_nonneg : ∀ x, Bytes x → wh x → 0 ≤ cp x
  | [], _, h => h.elim
  | [a], hb, h => (hb a (by simp)).1
  | [a, b], hb, h => by
    have h2 : 194 ≤ a ∧ a ≤ 223 ∧ 128 ≤ b ∧ b ≤ 191 := h
    show 0 ≤ (a - 192) * 64 + b - 128
    omega
  | [a, b, c], hb, h => by
    have h2 : 224 ≤ a ∧ a ≤ 239 ∧ lo3 a ≤ b ∧ b ≤ hi3 a ∧ 128 ≤ c ∧ c ≤ 191 := h
    have := lo3_ge a
    show 0 ≤ ((a - 224) * 64 + b - 128) * 64 + c - 128
    omega
  | [a, b, c, d], hb, h => by
    have h2 : 240 ≤ a ∧ a ≤ 244 ∧ lo4 a ≤ b ∧ b ≤ hi4 a ∧ 128 ≤ c ∧ c ≤ 191 ∧ 128 ≤ d ∧ d ≤ 191 := h
    have := lo4_ge a
    show 0 ≤ (((a - 240) * 64 + b - 128) * 64 + c - 128) * 64 + d - 128
    omega
  | _ :: _ :: _ :: _ :: _ :: _, _, h => h.elim
theorem wh2_iff (a b : Int) : wh [a, b] ↔ (194 ≤ a ∧ a ≤ 223 ∧ 128 ≤ b ∧ b ≤ 191) := Iff.rfl
theorem wh3_iff (a b c : Int) : wh [a, b, c] ↔ (224 ≤ a ∧ a ≤ 239 ∧ lo3 a ≤ b ∧ b ≤ hi3 a ∧ 128 ≤ c ∧ c ≤ 191) := Iff.rfl
theorem wh4_iff (a b c d : Int) : wh [a, b, c, d] ↔ (240 ≤ a ∧ a ≤ 244 ∧ lo4 a ≤ b ∧ b ≤ hi4 a ∧ 128 ≤ c ∧ c ≤ 191 ∧ 128 ≤ d ∧ d ≤ 191) := Iff.rfl
/-! #### Put -/
def ref1 (b : Int) : List Int × List Int := if wh [b] then ([], [b]) else if beg [b] then ([b], []) else ([], [65533])
def refPut (W : List Int) (b : Int) : List Int × List Int :=
  if wh (W ++ [b]) then ([], [cp (W ++ [b])]) else if beg (W ++ [b]) then (W ++ [b], []) else if W = [] then ([], [65533]) else ((ref1 b).1, 65533 :: (ref1 b).2)
theorem refPut_nil (b : Int) : refPut [] b = ref1 b := by
  unfold refPut ref1
  simp only [List.nil_append, if_true]
  rfl
theorem ref1_len (b : Int) : (ref1 b).2.length ≤ 1 := by
  unfold ref1
  split
  · simp
  · split <;> simp
theorem Bytes_j0 (c : Int) (h0 : 0 ≤ c) (h1 : c ≤ 1114111) : Ev (fun k => batonref08_Bytes.j0 k c) (enc c) := by
  have t1 : Int.tdiv c 64 = c / 64 := Int.tdiv_eq_ediv_of_nonneg h0
  have t2 : Int.tdiv c 4096 = c / 4096 := Int.tdiv_eq_ediv_of_nonneg h0
  have t3 : Int.tdiv c 262144 = c / 262144 := Int.tdiv_eq_ediv_of_nonneg h0
  have m1 : Int.tmod c 64 = c % 64 := Int.tmod_eq_emod_of_nonneg h0
  have m2 : Int.tmod (c / 64) 64 = c / 64 % 64 := Int.tmod_eq_emod_of_nonneg (by omega)
  have m3 : Int.tmod (c / 4096) 64 = c / 4096 % 64 := Int.tmod_eq_emod_of_nonneg (by omega)
  apply ev_succ
  unfold enc
  by_cases c1 : c < 128
  · simp only [batonref08_Bytes.j0, if_pos c1, show c % 256 = c from by omega]
    exact ev_some _
  · by_cases c2 : c < 2048
    · simp only [batonref08_Bytes.j0, if_neg c1, if_pos c2, t1, m1]
      rw [w64 (x := c / 64) (by omega) (by omega), w64 (x := 192 + c / 64) (by omega) (by omega), w64 (x := 128 + c % 64) (by omega) (by omega), show (192 + c / 64) % 256 = 192 + c / 64 by omega, show (128 + c % 64) % 256 = 128 + c % 64 by omega]
      exact ev_some _
    · by_cases c3 : c < 65536
      · simp only [batonref08_Bytes.j0, if_neg c1, if_neg c2, if_pos c3, t1, t2, m1]
        rw [w64 (x := c / 64) (by omega) (by omega), m2, w64 (x := c / 4096) (by omega) (by omega), w64 (x := 224 + c / 4096) (by omega) (by omega), w64 (x := 128 + c / 64 % 64) (by omega) (by omega), w64 (x := 128 + c % 64) (by omega) (by omega), show (224 + c / 4096) % 256 = 224 + c / 4096 by omega, show (128 + c / 64 % 64) % 256 = 128 + c / 64 % 64 by omega, show (128 + c % 64) % 256 = 128 + c % 64 by omega]
        exact ev_some _
      · simp only [batonref08_Bytes.j0, if_neg c1, if_neg c2, if_neg c3, t1, t2, t3, m1]
        rw [w64 (x := c / 64) (by omega) (by omega), m2, w64 (x := c / 4096) (by omega) (by omega), m3, w64 (x := c / 262144) (by omega) (by omega), w64 (x := 240 + c / 262144) (by omega) (by omega), w64 (x := 128 + c / 4096 % 64) (by omega) (by omega), w64 (x := 128 + c / 64 % 64) (by omega) (by omega), w64 (x := 128 + c % 64) (by omega) (by omega), show (240 + c / 262144) % 256 = 240 + c / 262144 by omega, show (128 + c / 4096 % 64) % 256 = 128 + c / 4096 % 64 by omega, show (128 + c / 64 % 64) % 256 = 128 + c / 64 % 64 by omega, show (128 + c % 64) % 256 = 128 + c % 64 by omega]
        exact ev_some _
theorem Bytes_ev (c : Int) : Ev (fun k => batonref08_Bytes.f k c) (enc' c) := by
  unfold batonref08_Bytes.f enc'
  simp only [Sign_f, Option.bind_some, decide_eq_true_eq]
  by_cases h : sign c
  · simp only [if_pos h]
    exact Bytes_j0 c h.1 h.2.1
  · simp only [if_neg h]
    exact Bytes_j0 65533 (by omega) (by omega)
/-! #### a sign's own bytes -/
theorem whenc (c : Int) (h : sign c) : wh (enc c) ∧ cp (enc c) = c := by
  have h0 := h
  unfold sign at h0
  unfold enc
  by_cases c1 : c < 128
  · rw [if_pos c1]
    exact ⟨c1, rfl⟩
  · rw [if_neg c1]
    by_cases c2 : c < 2048
    · rw [if_pos c2]
      exact ⟨⟨by omega, by omega, by omega, by omega⟩, by show (192 + c / 64 - 192) * 64 + (128 + c % 64) - 128 = c; omega⟩
    · rw [if_neg c2]
      by_cases c3 : c < 65536
      · rw [if_pos c3]
        have hcp : cp [224 + c / 4096, 128 + c / 64 % 64, 128 + c % 64] = c := by
          show ((224 + c / 4096 - 224) * 64 + (128 + c / 64 % 64) - 128) * 64 + (128 + c % 64) - 128 = c
          omega
        refine ⟨(enc3 _ _ _ (by omega) (by omega) (by omega)).1 ⟨by rw [hcp]; exact h, ?_⟩, hcp⟩
        rw [hcp]
        unfold enc
        rw [if_neg c1, if_neg c2, if_pos c3]
      · rw [if_neg c3]
        have hcp : cp [240 + c / 262144, 128 + c / 4096 % 64, 128 + c / 64 % 64, 128 + c % 64] = c := by
          show (((240 + c / 262144 - 240) * 64 + (128 + c / 4096 % 64) - 128) * 64 + (128 + c / 64 % 64) - 128) * 64 + (128 + c % 64) - 128 = c
          omega
        refine ⟨(enc4 _ _ _ _ (by omega) (by omega) (by omega) (by omega)).1 ⟨by rw [hcp]; exact h, ?_⟩, hcp⟩
        rw [hcp]
        unfold enc
        rw [if_neg c1, if_neg c2, if_neg c3]
theorem enc_bytes (c : Int) (h : sign c) : Bytes (enc c) := by
  unfold sign at h
  unfold enc
  intro x hx
  by_cases c1 : c < 128
  · rw [if_pos c1] at hx
    simp at hx
    omega
  · rw [if_neg c1] at hx
    by_cases c2 : c < 2048
    · rw [if_pos c2] at hx
      simp at hx
      omega
    · rw [if_neg c2] at hx
      by_cases c3 : c < 65536
      · rw [if_pos c3] at hx
        simp at hx
        omega
      · rw [if_neg c3] at hx
        simp at hx
        omega
theorem sign65533 : sign 65533 := by decide
theorem enc'_bytes (c : Int) : Bytes (enc' c) := by
  unfold enc'
  split
  · rename_i h
    exact enc_bytes c h
  · exact enc_bytes _ sign65533
theorem enc'_len (c : Int) : (enc' c).length ≤ 4 := by
  unfold enc'
  split <;> exact enc_len _
theorem enc8_eq (c : Int) (h : sign c) : enc8 c = enc c := by
  have hv : Utf8.valid c = true := by
    rw [validRune_eq]
    unfold sign at h
    exact decide_eq_true (by omega)
  unfold enc8 Utf8.encode enc
  simp only [hv, if_true]
  obtain ⟨n, rfl⟩ : ∃ n : Nat, c = n := ⟨c.toNat, by unfold sign at h; omega⟩
  simp only [Int.toNat_natCast]
  unfold sign at h
  by_cases c1 : n < 128
  · rw [if_pos c1, if_pos (by omega)]
    simp
    omega
  · rw [if_neg c1, if_neg (show ¬ (n : Int) < 128 by omega)]
    by_cases c2 : n < 2048
    · rw [if_pos c2, if_pos (show (n : Int) < 2048 by omega)]
      simp
      omega
    · rw [if_neg c2, if_neg (show ¬ (n : Int) < 2048 by omega)]
      by_cases c3 : n < 65536
      · rw [if_pos c3, if_pos (show (n : Int) < 65536 by omega)]
        simp
        omega
      · rw [if_neg c3, if_neg (show ¬ (n : Int) < 65536 by omega)]
        simp
        omega
theorem RBytes_f (c : Int) : runes_Bytes.f c = some (enc' c) := by
  unfold runes_Bytes.f enc'
  by_cases h : sign c
  · rw [if_pos h, if_neg (by unfold sign at h; omega), enc8_eq c h]
  · rw [if_neg h, if_pos (by unfold sign at h; omega), enc8_eq _ sign65533]
theorem Text_l0 (l : List Int) (hl : l.length ≤ 1000000) : ∀ (d i : Nat) (o : List Int), l.length - i = d → i ≤ l.length → o.length ≤ 4 * i → Ev (fun k => runes_Text.l0 k o l (l.length : Int) (i : Int)) (strOfNums (o ++ (l.drop i).flatMap enc')) := by
  intro d
  induction d with
  | zero =>
    intro i o hd hi ho
    obtain rfl : i = l.length := by omega
    apply ev_succ
    simp only [runes_Text.l0, if_neg (show ¬ ((l.length : Int) < (l.length : Int)) by omega), List.drop_length, List.flatMap_nil, List.append_nil]
    exact ev_some _
  | succ d ih =>
    intro i o hd hi ho
    have hlt : i < l.length := by omega
    have hw : wrap64 ((i : Int) + 1) = ((i + 1 : Nat) : Int) := by rw [w64 (by omega) (by omega)]; omega
    have he := enc'_len l[i]
    apply ev_succ
    simp only [runes_Text.l0, if_pos (show (i : Int) < (l.length : Int) by omega), if_pos (show (0 : Int) ≤ (i : Int) by omega), rd_lt hlt, RBytes_f, Option.bind_some, if_pos (show o.length + (enc' l[i]).length < 140737488355328 by omega), hw]
    refine ev_eq (ih (i + 1) _ (by omega) (by omega) (by rw [List.length_append]; omega)) ?_
    rw [List.drop_eq_getElem_cons hlt, List.flatMap_cons, List.append_assoc]
theorem Text_ev (l : List Int) (hl : l.length ≤ 1000000) : Ev (fun k => runes_Text.f k l) (strOfNums (l.flatMap enc')) := by
  unfold runes_Text.f
  have := Text_l0 l hl l.length 0 [] (by omega) (by omega) (by simp)
  exact this

/-! #### blanks at the end of a text -/
/-- Signs without the blanks at their end. -/
def trimL (L : List Int) : List Int := (L.reverse.dropWhile (fun c => decide (c = 32))).reverse
theorem trimL_nil : trimL [] = [] := rfl
theorem trimL_blank (L : List Int) : trimL (L ++ [32]) = trimL L := by
  unfold trimL
  rw [List.reverse_append]
  rfl
theorem trimL_other (L : List Int) {c : Int} (h : c ≠ 32) : trimL (L ++ [c]) = L ++ [c] := by
  unfold trimL
  rw [List.reverse_append, List.reverse_singleton, List.singleton_append, List.dropWhile_cons_of_neg (by simpa using h), List.reverse_cons, List.reverse_reverse]
theorem enc'_last (c : Int) : ∃ p b, enc' c = p ++ [b] ∧ (c = 32 → p = [] ∧ b = 32) ∧ (b = 32 → c = 32) := by
  unfold enc'
  by_cases h : sign c
  · rw [if_pos h]
    unfold sign at h
    unfold enc
    repeat' split
    · exact ⟨[], c, rfl, fun h => ⟨rfl, h⟩, fun h => h⟩
    · exact ⟨[_], _, rfl, by omega, by omega⟩
    · exact ⟨[_, _], _, rfl, by omega, by omega⟩
    · exact ⟨[_, _, _], _, rfl, by omega, by omega⟩
  · rw [if_neg h]
    refine ⟨[239, 191], 189, by decide, fun hc => ?_, fun hb => by omega⟩
    exact absurd (by rw [hc]; decide) h
theorem str_len (l : List Int) : (strOfNums l).size = l.length := by
  unfold strOfNums
  show (List.map _ l).toArray.size = _
  simp
theorem bt_last (A : List Int) (b : Int) (hb : 0 ≤ b ∧ b ≤ 255) : bt (strOfNums (A ++ [b])) (A.length : Int) = b := by
  have hs : (strOfNums (A ++ [b])).size = A.length + 1 := by rw [str_len, List.length_append]; rfl
  have h : ((A.length : Int)).toNat < (strOfNums (A ++ [b])).size := by omega
  rw [← bt_at _ _ h]
  have e : (strOfNums (A ++ [b]))[((A.length : Int)).toNat]'h = UInt8.ofNat b.toNat := by
    show (strOfNums (A ++ [b])).data[((A.length : Int)).toNat]'h = _
    simp [strOfNums]
  rw [e, UInt8.toNat_ofNat', Nat.mod_eq_of_lt (by omega)]
  omega
theorem ext_last (A : List Int) (b : Int) : (strOfNums (A ++ [b])).extract 0 A.length = strOfNums A := by
  apply ByteArray.ext
  rw [ByteArray.data_extract]
  unfold strOfNums
  simp
theorem flat_len (Q : List Int) : (Q.flatMap enc').length ≤ 4 * Q.length := by
  induction Q with
  | nil => simp
  | cons c Q ih => rw [List.flatMap_cons, List.length_append, List.length_cons]; have := enc'_len c; omega
theorem trim_l0 (R : List Int) (hl : R.length ≤ 1000000) : Ev (fun k => strings_trimRightByte.l0 k (strOfNums (R.reverse.flatMap enc')) 32) (strOfNums ((trimL R.reverse).flatMap enc')) := by
  induction R with
  | nil =>
    apply ev_succ
    simp only [strings_trimRightByte.l0]
    exact ev_some _
  | cons c R ih =>
    rw [List.length_cons] at hl
    obtain ⟨p, b, he, h1, h2⟩ := enc'_last c
    have hbb : 0 ≤ b ∧ b ≤ 255 := by have := enc'_bytes c b (by rw [he]; simp); omega
    rw [List.reverse_cons, List.flatMap_append, List.flatMap_cons, List.flatMap_nil, List.append_nil, he, ← List.append_assoc]
    obtain ⟨F, hF⟩ : ∃ F, F = R.reverse.flatMap enc' := ⟨_, rfl⟩
    rw [← hF]
    have hlen : F.length ≤ 4 * R.length := by have := flat_len R.reverse; rw [List.length_reverse, ← hF] at this; exact this
    have hp : p.length ≤ 3 := by have := enc'_len c; rw [he, List.length_append, List.length_singleton] at this; omega
    have hs : (strOfNums (F ++ p ++ [b])).size = (F ++ p).length + 1 := by rw [str_len, List.length_append, List.length_singleton]
    have hfp : (F ++ p).length ≤ 4 * R.length + 3 := by rw [List.length_append]; omega
    have hw : wrap64 (((strOfNums (F ++ p ++ [b])).size : Int) - 1) = ((F ++ p).length : Int) := by rw [w64 (by omega) (by omega)]; omega
    apply ev_succ
    simp only [strings_trimRightByte.l0]
    rw [hw]
    simp only [if_pos (show ((strOfNums (F ++ p ++ [b])).size : Int) > 0 by omega), if_pos (show (0 : Int) ≤ ((F ++ p).length : Int) by omega), if_pos (show ((F ++ p).length : Int) < ((strOfNums (F ++ p ++ [b])).size : Int) by omega), if_pos (show ((F ++ p).length : Int) ≤ ((strOfNums (F ++ p ++ [b])).size : Int) by omega), bt_last _ b hbb, Int.toNat_natCast, ext_last]
    by_cases hb : b = 32
    · simp only [if_pos hb]
      obtain rfl := h2 hb
      obtain ⟨rfl, _⟩ := h1 rfl
      rw [trimL_blank, List.append_nil, hF]
      exact ih (by omega)
    · simp only [if_neg hb]
      have hc : c ≠ 32 := fun h => hb (h1 h).2
      rw [trimL_other _ hc, List.flatMap_append, List.flatMap_cons, List.flatMap_nil, List.append_nil, he, ← hF, ← List.append_assoc]
      exact ev_some _
theorem trim_ev (L : List Int) (hl : L.length ≤ 1000000) : Ev (fun k => strings_TrimRight.f k (strOfNums (L.flatMap enc')) (⟨#[32]⟩ : ByteArray)) (strOfNums ((trimL L).flatMap enc')) := by
  have h := trim_l0 L.reverse (by rw [List.length_reverse]; exact hl)
  rw [List.reverse_reverse] at h
  unfold strings_TrimRight.f
  simp only [if_true]
  by_cases h0 : (strOfNums (L.flatMap enc')).size = 0
  · simp only [if_pos h0]
    have : L = [] := by
      rcases List.eq_nil_or_concat L with h | ⟨A, c, rfl⟩
      · exact h
      · obtain ⟨p, b, he, _⟩ := enc'_last c
        rw [str_len, List.concat_eq_append, List.flatMap_append, List.flatMap_cons, he] at h0
        simp at h0
    subst this
    exact ev_some _
  · simp only [if_neg h0]
    exact h

/-! #### the text of cells -/
theorem cellText_l0 (l : List S27) (hl : l.length ≤ 1000000) : ∀ (d i : Nat) (o : List Int), l.length - i = d → i ≤ l.length → o.length = i → Ev (fun k => cell_Text.l0 k o l (l.length : Int) (i : Int)) (strOfNums ((trimL (o ++ (l.drop i).map S27.f0)).flatMap enc')) := by
  intro d
  induction d with
  | zero =>
    intro i o hd hi ho
    obtain rfl : i = l.length := by omega
    apply ev_succ
    simp only [cell_Text.l0, if_neg (show ¬ ((l.length : Int) < (l.length : Int)) by omega), List.drop_length, List.map_nil, List.append_nil]
    exact ev_bind (Text_ev o (by omega)) (ev_bind (trim_ev o (by omega)) (ev_some _))
  | succ d ih =>
    intro i o hd hi ho
    have hlt : i < l.length := by omega
    have hw : wrap64 ((i : Int) + 1) = ((i + 1 : Nat) : Int) := by rw [w64 (by omega) (by omega)]; omega
    apply ev_succ
    simp only [cell_Text.l0, if_pos (show (i : Int) < (l.length : Int) by omega), if_pos (show (0 : Int) ≤ (i : Int) by omega), rd53 l i hlt, if_pos (show o.length < 35184372088832 by omega), hw]
    refine ev_eq (ih (i + 1) _ (by omega) (by omega) (by rw [List.length_append, List.length_singleton]; omega)) ?_
    rw [List.drop_eq_getElem_cons hlt, List.map_cons, List.append_assoc, List.singleton_append]
theorem cellText_ev (l : List S27) (hl : l.length ≤ 1000000) : Ev (fun k => cell_Text.f k l) (strOfNums ((trimL (l.map S27.f0)).flatMap enc')) := by
  unfold cell_Text.f
  have := cellText_l0 l hl l.length 0 [] (by omega) (by omega) rfl
  exact this
theorem CT_l1 (l : List S27) (hl : l.length ≤ 1000) (hw : ∀ x ∈ l, wrap64 x.f0 = x.f0) (n : Nat) (hn : n ≤ l.length) (hT : trimL (l.map S27.f0) = (l.take n).map S27.f0) : ∀ (d i : Nat), n - i = d → i ≤ n → Ev (fun k => batonlaw09_CellTexts.l1 k l (n : Int) (((l.take i).map S27.f0).flatMap enc') (i : Int)) true := by
  intro d
  induction d with
  | zero =>
    intro i hd hi
    obtain rfl : i = n := by omega
    apply ev_succ
    simp only [batonlaw09_CellTexts.l1, if_neg (show ¬ ((i : Int) < (i : Int)) by omega)]
    refine ev_bind (cellText_ev l (by omega)) ?_
    rw [hT, beq_self_eq_true]
    exact ev_some _
  | succ d ih =>
    intro i hd hi
    have hlt : i < l.length := by omega
    have hw1 : wrap64 ((i : Int) + 1) = ((i + 1 : Nat) : Int) := by rw [w64 (by omega) (by omega)]; omega
    have hfl := flat_len ((l.take i).map S27.f0)
    rw [List.length_map, List.length_take] at hfl
    have he := enc'_len l[i].f0
    apply ev_succ
    simp only [batonlaw09_CellTexts.l1, if_pos (show (i : Int) < (n : Int) by omega), if_pos (show (i : Int) < (l.length : Int) by omega), if_pos (show (0 : Int) ≤ (i : Int) by omega), rd53 l i hlt, hw _ (List.getElem_mem hlt), hw1]
    refine ev_bind (Bytes_ev l[i].f0) ?_
    simp only [if_pos (show (((l.take i).map S27.f0).flatMap enc').length + (enc' l[i].f0).length < 140737488355328 by omega)]
    have h := ih (i + 1) (by omega) (by omega)
    rw [← List.take_append_getElem hlt, List.map_append, List.flatMap_append] at h
    simp only [List.map_cons, List.map_nil, List.flatMap_cons, List.flatMap_nil, List.append_nil] at h
    exact h
theorem CT_j1 (l : List S27) (hl : l.length ≤ 1000) (hw : ∀ x ∈ l, wrap64 x.f0 = x.f0) (n : Nat) (hn : n ≤ l.length) (hT : trimL (l.map S27.f0) = (l.take n).map S27.f0) : Ev (fun k => batonlaw09_CellTexts.j1 k l (n : Int)) true := by
  apply ev_succ
  simp only [batonlaw09_CellTexts.j1]
  have := CT_l1 l hl hw n hn hT n 0 (by omega) (by omega)
  exact this
theorem CT_l0 (l : List S27) (hl : l.length ≤ 1000) (hw : ∀ x ∈ l, wrap64 x.f0 = x.f0) : ∀ (n : Nat), n ≤ l.length → trimL (l.map S27.f0) = trimL ((l.take n).map S27.f0) → Ev (fun k => batonlaw09_CellTexts.l0 k l (n : Int)) true := by
  intro n
  induction n with
  | zero =>
    intro hn hT
    apply ev_succ
    simp only [batonlaw09_CellTexts.l0, if_neg (show ¬ (((0 : Nat) : Int) > 0) by omega)]
    exact CT_j1 l hl hw 0 hn (by rw [hT]; rfl)
  | succ n ih =>
    intro hn hT
    have hlt : n < l.length := by omega
    have hw1 : wrap64 (((n + 1 : Nat) : Int) - 1) = (n : Int) := by rw [w64 (by omega) (by omega)]; omega
    apply ev_succ
    simp only [batonlaw09_CellTexts.l0, if_pos (show ((n + 1 : Nat) : Int) > 0 by omega), hw1, if_pos (show (0 : Int) ≤ (n : Int) by omega), if_pos (show (n : Int) < (l.length : Int) by omega), rd53 l n hlt]
    rw [← List.take_append_getElem hlt, List.map_append, List.map_cons, List.map_nil] at hT
    by_cases h : l[n].f0 = 32
    · simp only [if_pos h]
      rw [h, trimL_blank] at hT
      exact ih (by omega) hT
    · simp only [if_neg h]
      rw [trimL_other _ h] at hT
      exact CT_j1 l hl hw (n + 1) hn (by rw [hT, ← List.take_append_getElem hlt, List.map_append, List.map_cons, List.map_nil])
theorem CellTexts_pure : batonlaw09_CellTexts.Pure := by
  intro l hl
  refine Ev.rounds ?_
  unfold batonlaw09_CellTexts.f
  refine ev_bind awake09 ?_
  simp only [if_true]
  by_cases h : (l.length : Int) > 100
  · simp only [if_pos h]
    exact ev_some _
  · simp only [if_neg h]
    refine CT_l0 l (by omega) (fun x hx => ?_) l.length (by omega) (by rw [List.take_length])
    have := bounds_i32 (hl.2 x hx).1
    exact w64 (by omega) (by omega)
end Go.Proofs.YtkckojgjkmcokaaDoor.LF09T
