/- Plain lemmas on the functions of the law BackPlays: what a cut leaves, which lines a ring has behind one more, what a text of cells is. No condition. -/
import Derived.Test.YtgnbhomdkchcfaaDoorBase
import Derived.Test.YtgnbhomdkchcfaaDoorPF15Px0
import Derived.Test.YtgnbhomdkchcfaaDoorPF15Px1
import Derived.Test.YtgnbhomdkchcfaaDoorPF15Px2
import Derived.Test.YtgnbhomdkchcfaaDoorPF15Px3
import Derived.Test.YtgnbhomdkchcfaaDoorPF15Px4
import Derived.Test.YtgnbhomdkchcfaaDoorPF15Px5
namespace Go.Proofs.YtgnbhomdkchcfaaDoor.LF15P
open Go.RowKit Go.Proofs.YtgnbhomdkchcfaaDoor.Base Go.Proofs.YtgnbhomdkchcfaaDoorW.PrintWords Go.Proofs.YtgnbhomdkchcfaaDoorW.PrintMore Go.Proofs.YtgnbhomdkchcfaaDoor.PF15P
set_option linter.unusedVariables false
set_option linter.unusedSimpArgs false
/-! ### cells and runs of cells -/
theorem rd28 (l : List S28) (i : Nat) (h : i < l.length) : rd_T28 l (i : Int) = l[i] := by
  unfold rd_T28
  simp [List.getD_eq_getElem?_getD, h]
theorem eqc (a b : S28) : (a.f0 == b.f0 && (a.f1.f0 == b.f1.f0 && (a.f1.f1 == b.f1.f1 && (a.f1.f2 == b.f1.f2)))) = true ↔ a = b := by
  obtain ⟨a0, a1, a2, a3⟩ := a
  obtain ⟨b0, b1, b2, b3⟩ := b
  simp
theorem eqc_ne {a b : S28} (h : a ≠ b) : (a.f0 == b.f0 && (a.f1.f0 == b.f1.f0 && (a.f1.f1 == b.f1.f1 && (a.f1.f2 == b.f1.f2)))) = false := Bool.eq_false_iff.2 (fun e => h ((eqc a b).1 e))
theorem neqc (a b : S28) : (!(a.f0 == b.f0) || (!(a.f1.f0 == b.f1.f0) || (!(a.f1.f1 == b.f1.f1) || !(a.f1.f2 == b.f1.f2)))) = true ↔ a ≠ b := by
  rw [← Bool.not_and, ← Bool.not_and, ← Bool.not_and, Bool.not_eq_true', Bool.eq_false_iff]
  exact not_congr (eqc a b)
theorem neqc_self (a : S28) : (!(a.f0 == a.f0) || (!(a.f1.f0 == a.f1.f0) || (!(a.f1.f1 == a.f1.f1) || !(a.f1.f2 == a.f1.f2)))) = false := by simp

def blk : S28 := ⟨32, ⟨0, 0, 0⟩⟩
theorem eqb (a : S28) : (a.f0 == 32 && (a.f1.f0 == 0 && (a.f1.f1 == 0 && (a.f1.f2 == 0)))) = true ↔ a = blk := eqc a blk
theorem neqb (a : S28) : (!(a.f0 == 32) || (!(a.f1.f0 == 0) || (!(a.f1.f1 == 0) || !(a.f1.f2 == 0)))) = true ↔ a ≠ blk := neqc a blk
theorem neqb_self : (!(blk.f0 == 32) || (!(blk.f1.f0 == 0) || (!(blk.f1.f1 == 0) || !(blk.f1.f2 == 0)))) = false := by decide
/-- What a cut leaves. -/
def cutAt (l : List S28) (m : Nat) : Prop := m ≤ l.length ∧ (∀ (h : 0 < m) (h2 : m - 1 < l.length), l[m - 1] ≠ blk) ∧ ∀ i (h : i < l.length), m ≤ i → l[i] = blk
theorem Clone15 (l : List S28) (h : l.length ≤ 1000000) : api_Cell.f l = some l := by
  unfold api_Cell.f
  rw [if_pos (by omega)]
theorem Cut_l0 (l : List S28) (hl : l.length ≤ 1000000) : ∀ n, n ≤ l.length → (∀ i (h : i < l.length), n ≤ i → l[i] = blk) → ∃ m, cutAt l m ∧ Ev (fun k => back_Cut.l0 k l (n : Int)) (l.take m) := by
  intro n
  induction n with
  | zero =>
    intro _ hb
    refine ⟨0, ⟨by omega, fun h => absurd h (by omega), hb⟩, ?_⟩
    apply ev_succ
    simp only [back_Cut.l0, if_neg (show ¬ ((0 : Nat) : Int) > 0 by omega), if_pos (show (0 : Int) ≤ ((0 : Nat) : Int) by omega), if_pos (show ((0 : Nat) : Int) ≤ (l.length : Int) by omega), Int.toNat_natCast, Clone15 (l.take 0) (by simp), Option.bind_some]
    exact ev_some _
  | succ n ih =>
    intro hn hb
    have hlt : n < l.length := by omega
    have hw : wrap64 (((n + 1 : Nat) : Int) - 1) = ((n : Nat) : Int) := by rw [w64 (by omega) (by omega)]; omega
    by_cases he : l[n] = blk
    · obtain ⟨m, h1, h2⟩ := ih (by omega) (fun i h hi => by
        by_cases e : i = n
        · subst e; exact he
        · exact hb i h (by omega))
      refine ⟨m, h1, ?_⟩
      apply ev_succ
      simp only [back_Cut.l0, cell_Blank.f, Option.bind_some, if_pos (show ((n + 1 : Nat) : Int) > 0 by omega), hw, if_pos (show (0 : Int) ≤ (n : Int) by omega), if_pos (show (n : Int) < (l.length : Int) by omega), rd28 l n hlt, if_pos ((eqb _).2 he)]
      exact h2
    · refine ⟨n + 1, ⟨hn, fun _ _ => he, hb⟩, ?_⟩
      apply ev_succ
      simp only [back_Cut.l0, cell_Blank.f, Option.bind_some, if_pos (show ((n + 1 : Nat) : Int) > 0 by omega), hw, if_pos (show (0 : Int) ≤ (n : Int) by omega), if_pos (show (n : Int) < (l.length : Int) by omega), rd28 l n hlt, if_neg (fun h => he ((eqb _).1 h)), if_pos (show (0 : Int) ≤ ((n + 1 : Nat) : Int) by omega), if_pos (show ((n + 1 : Nat) : Int) ≤ (l.length : Int) by omega), Int.toNat_natCast, Clone15 (l.take (n + 1)) (by rw [List.length_take]; omega)]
      exact ev_some _
theorem Cut_ev (l : List S28) (hl : l.length ≤ 1000000) : ∃ m, cutAt l m ∧ Ev (fun k => back_Cut.f k l) (l.take m) := Cut_l0 l hl l.length (Nat.le_refl _) (fun i h hi => absurd h (by omega))
theorem CSame_l0 (a : List S28) (hl : a.length ≤ 9000000000000000000) : ∀ (d i : Nat), a.length - i = d → i ≤ a.length → Ev (fun k => batonref09_Same.l0 k a a (i : Int)) true := by
  intro d
  induction d with
  | zero =>
    intro i hd hi
    obtain rfl : i = a.length := by omega
    apply ev_succ
    simp only [batonref09_Same.l0, if_neg (show ¬ ((a.length : Int) < (a.length : Int)) by omega)]
    exact ev_some _
  | succ d ih =>
    intro i hd hi
    have hlt : i < a.length := by omega
    have hw : wrap64 ((i : Int) + 1) = ((i + 1 : Nat) : Int) := by rw [w64 (by omega) (by omega)]; omega
    apply ev_succ
    simp only [batonref09_Same.l0, if_pos (show (i : Int) < (a.length : Int) by omega), if_pos (show (0 : Int) ≤ (i : Int) by omega), rd28 a i hlt, hw, neqc_self, Bool.false_eq_true, if_false]
    exact ih (i + 1) (by omega) (by omega)
theorem CSame_ev (a : List S28) (hl : a.length ≤ 9000000000000000000) : Ev (fun k => batonref09_Same.f k a a) true := by
  unfold batonref09_Same.f
  simp only [if_true]
  exact CSame_l0 a hl a.length 0 (by omega) (by omega)
/-! ### signs: the document's answer -/
def lo3 (a : Int) : Int := if a = 224 then 160 else 128
def hi3 (a : Int) : Int := if a = 237 then 159 else 191
def lo4 (a : Int) : Int := if a = 240 then 144 else 128
def hi4 (a : Int) : Int := if a = 244 then 143 else 191
def sign (c : Int) : Prop := 0 ≤ c ∧ c ≤ 1114111 ∧ (c < 55296 ∨ c > 57343)
instance (c : Int) : Decidable (sign c) := by unfold sign; infer_instance
def enc (c : Int) : List Int :=
  if c < 128 then [c] else if c < 2048 then [192 + c / 64, 128 + c % 64] else if c < 65536 then [224 + c / 4096, 128 + c / 64 % 64, 128 + c % 64]
  else [240 + c / 262144, 128 + c / 4096 % 64, 128 + c / 64 % 64, 128 + c % 64]
/-- Are bytes a sign? -/
def wh : List Int → Prop
  | [a] => a < 128
  | [a, b] => 194 ≤ a ∧ a ≤ 223 ∧ 128 ≤ b ∧ b ≤ 191
  | [a, b, c] => 224 ≤ a ∧ a ≤ 239 ∧ lo3 a ≤ b ∧ b ≤ hi3 a ∧ 128 ≤ c ∧ c ≤ 191
  | [a, b, c, d] => 240 ≤ a ∧ a ≤ 244 ∧ lo4 a ≤ b ∧ b ≤ hi4 a ∧ 128 ≤ c ∧ c ≤ 191 ∧ 128 ≤ d ∧ d ≤ 191
  | _ => False
instance : (x : List Int) → Decidable (wh x)
  | [] => isFalse id
  | [a] => by unfold wh; infer_instance
  | [a, b] => by unfold wh; infer_instance
  | [a, b, c] => by unfold wh; infer_instance
  | [a, b, c, d] => by unfold wh; infer_instance
  | _ :: _ :: _ :: _ :: _ :: _ => isFalse id
def cp : List Int → Int
  | [a] => a
  | [a, b] => (a - 192) * 64 + b - 128
  | [a, b, c] => ((a - 224) * 64 + b - 128) * 64 + c - 128
  | [a, b, c, d] => (((a - 240) * 64 + b - 128) * 64 + c - 128) * 64 + d - 128
  | _ => 0
/-- May bytes go on to a sign? -/
def beg : List Int → Prop
  | [a] => 194 ≤ a ∧ a ≤ 244
  | [a, b] => (224 ≤ a ∧ a ≤ 239 ∧ lo3 a ≤ b ∧ b ≤ hi3 a) ∨ (240 ≤ a ∧ a ≤ 244 ∧ lo4 a ≤ b ∧ b ≤ hi4 a)
  | [a, b, c] => 240 ≤ a ∧ a ≤ 244 ∧ lo4 a ≤ b ∧ b ≤ hi4 a ∧ 128 ≤ c ∧ c ≤ 191
  | _ => False
instance : (x : List Int) → Decidable (beg x)
  | [] => isFalse id
  | [a] => by unfold beg; infer_instance
  | [a, b] => by unfold beg; infer_instance
  | [a, b, c] => by unfold beg; infer_instance
  | _ :: _ :: _ :: _ :: _ => isFalse id
theorem lo3_ge (a : Int) : 128 ≤ lo3 a ∧ lo3 a ≤ 160 := by unfold lo3; split <;> omega
theorem hi3_le (a : Int) : hi3 a ≤ 191 ∧ 159 ≤ hi3 a := by unfold hi3; split <;> omega
theorem lo4_ge (a : Int) : 128 ≤ lo4 a ∧ lo4 a ≤ 144 := by unfold lo4; split <;> omega
theorem hi4_le (a : Int) : hi4 a ≤ 191 ∧ 143 ≤ hi4 a := by unfold hi4; split <;> omega
theorem enc1 (a : Int) (ha : 0 ≤ a ∧ a ≤ 255) : (sign a ∧ enc a = [a]) ↔ wh [a] := by
  show (sign a ∧ enc a = [a]) ↔ a < 128
  unfold sign enc
  constructor
  · rintro ⟨_, h⟩
    split at h
    · assumption
    · split at h
      · simp at h
      · split at h <;> simp at h
  · intro h
    rw [if_pos h]
    exact ⟨by omega, rfl⟩
theorem enc2 (a b : Int) (ha : 0 ≤ a ∧ a ≤ 255) (hb : 0 ≤ b ∧ b ≤ 255) : (sign (cp [a, b]) ∧ enc (cp [a, b]) = [a, b]) ↔ wh [a, b] := by
  show (sign ((a - 192) * 64 + b - 128) ∧ enc ((a - 192) * 64 + b - 128) = [a, b]) ↔ (194 ≤ a ∧ a ≤ 223 ∧ 128 ≤ b ∧ b ≤ 191)
  unfold sign enc
  constructor
  · rintro ⟨_, h⟩
    split at h
    · simp at h
    · split at h
      · simp only [List.cons.injEq, and_true] at h
        omega
      · split at h <;> simp at h
  · intro h
    rw [if_neg (by omega), if_pos (by omega)]
    refine ⟨by omega, ?_⟩
    simp only [List.cons.injEq, and_true]
    omega
theorem enc3 (a b c : Int) (ha : 0 ≤ a ∧ a ≤ 255) (hb : 0 ≤ b ∧ b ≤ 255) (hc : 0 ≤ c ∧ c ≤ 255) : (sign (cp [a, b, c]) ∧ enc (cp [a, b, c]) = [a, b, c]) ↔ wh [a, b, c] := by
  show (sign (((a - 224) * 64 + b - 128) * 64 + c - 128) ∧ enc (((a - 224) * 64 + b - 128) * 64 + c - 128) = [a, b, c]) ↔ (224 ≤ a ∧ a ≤ 239 ∧ (if a = 224 then 160 else 128) ≤ b ∧ b ≤ (if a = 237 then 159 else 191) ∧ 128 ≤ c ∧ c ≤ 191)
  unfold sign enc
  constructor
  · rintro ⟨_, h⟩
    split at h
    · simp at h
    · split at h
      · simp at h
      · split at h
        · simp only [List.cons.injEq, and_true] at h
          split <;> split <;> omega
        · simp at h
  · intro h
    rw [if_neg (by split at h <;> split at h <;> omega), if_neg (by split at h <;> split at h <;> omega), if_pos (by omega)]
    refine ⟨by split at h <;> split at h <;> omega, ?_⟩
    simp only [List.cons.injEq, and_true]
    split at h <;> split at h <;> omega
theorem enc4 (a b c d : Int) (ha : 0 ≤ a ∧ a ≤ 255) (hb : 0 ≤ b ∧ b ≤ 255) (hc : 0 ≤ c ∧ c ≤ 255) (hd : 0 ≤ d ∧ d ≤ 255) : (sign (cp [a, b, c, d]) ∧ enc (cp [a, b, c, d]) = [a, b, c, d]) ↔ wh [a, b, c, d] := by
  show (sign ((((a - 240) * 64 + b - 128) * 64 + c - 128) * 64 + d - 128) ∧ enc ((((a - 240) * 64 + b - 128) * 64 + c - 128) * 64 + d - 128) = [a, b, c, d]) ↔ (240 ≤ a ∧ a ≤ 244 ∧ (if a = 240 then 144 else 128) ≤ b ∧ b ≤ (if a = 244 then 143 else 191) ∧ 128 ≤ c ∧ c ≤ 191 ∧ 128 ≤ d ∧ d ≤ 191)
  unfold sign enc
  constructor
  · rintro ⟨_, h⟩
    split at h
    · simp at h
    · split at h
      · simp at h
      · split at h
        · simp at h
        · simp only [List.cons.injEq, and_true] at h
          split <;> split <;> omega
  · intro h
    rw [if_neg (by split at h <;> split at h <;> omega), if_neg (by split at h <;> split at h <;> omega), if_neg (by split at h <;> split at h <;> omega)]
    refine ⟨by split at h <;> split at h <;> omega, ?_⟩
    simp only [List.cons.injEq, and_true]
    split at h <;> split at h <;> omega
theorem enc_len (c : Int) : (enc c).length ≤ 4 := by
  unfold enc
  split
  · simp
  · split
    · simp
    · split <;> simp
def enc' (c : Int) : List Int := if sign c then enc c else enc 65533
theorem cp_nonneg : ∀ x, Bytes x → wh x → 0 ≤ cp x
  | [], _, h => h.elim
  | [a], hb, h => (hb a (by simp)).1
  | [a, b], hb, h => by
    have h2 : 194 ≤ a ∧ a ≤ 223 ∧ 128 ≤ b ∧ b ≤ 191 := h
    show 0 ≤ (a - 192) * 64 + b - 128
    omega
  | [a, b, c], hb, h => by
    have h2 : 224 ≤ a ∧ a ≤ 239 ∧ lo3 a ≤ b ∧ b ≤ hi3 a ∧ 128 ≤ c ∧ c ≤ 191 := h
    have := lo3_ge a
    show 0 ≤ ((a - 224) * 64 + b - 128) * 64 + c - 128
    omega
  | [a, b, c, d], hb, h => by
    have h2 : 240 ≤ a ∧ a ≤ 244 ∧ lo4 a ≤ b ∧ b ≤ hi4 a ∧ 128 ≤ c ∧ c ≤ 191 ∧ 128 ≤ d ∧ d ≤ 191 := h
    have := lo4_ge a
    show 0 ≤ (((a - 240) * 64 + b - 128) * 64 + c - 128) * 64 + d - 128
    omega
  | _ :: _ :: _ :: _ :: _ :: _, _, h => h.elim
theorem wh2_iff (a b : Int) : wh [a, b] ↔ (194 ≤ a ∧ a ≤ 223 ∧ 128 ≤ b ∧ b ≤ 191) := Iff.rfl
theorem wh3_iff (a b c : Int) : wh [a, b, c] ↔ (224 ≤ a ∧ a ≤ 239 ∧ lo3 a ≤ b ∧ b ≤ hi3 a ∧ 128 ≤ c ∧ c ≤ 191) := Iff.rfl
theorem wh4_iff (a b c d : Int) : wh [a, b, c, d] ↔ (240 ≤ a ∧ a ≤ 244 ∧ lo4 a ≤ b ∧ b ≤ hi4 a ∧ 128 ≤ c ∧ c ≤ 191 ∧ 128 ≤ d ∧ d ≤ 191) := Iff.rfl
/-! #### Put -/
def ref1 (b : Int) : List Int × List Int := if wh [b] then ([], [b]) else if beg [b] then ([b], []) else ([], [65533])
def refPut (W : List Int) (b : Int) : List Int × List Int :=
  if wh (W ++ [b]) then ([], [cp (W ++ [b])]) else if beg (W ++ [b]) then (W ++ [b], []) else if W = [] then ([], [65533]) else ((ref1 b).1, 65533 :: (ref1 b).2)
theorem refPut_nil (b : Int) : refPut [] b = ref1 b := by
  unfold refPut ref1
  simp only [List.nil_append, if_true]
  rfl
theorem ref1_len (b : Int) : (ref1 b).2.length ≤ 1 := by
  unfold ref1
  split
  · simp
  · split <;> simp
/-! #### a sign's own bytes -/
theorem whenc (c : Int) (h : sign c) : wh (enc c) ∧ cp (enc c) = c := by
  have h0 := h
  unfold sign at h0
  unfold enc
  by_cases c1 : c < 128
  · rw [if_pos c1]
    exact ⟨c1, rfl⟩
  · rw [if_neg c1]
    by_cases c2 : c < 2048
    · rw [if_pos c2]
      exact ⟨⟨by omega, by omega, by omega, by omega⟩, by show (192 + c / 64 - 192) * 64 + (128 + c % 64) - 128 = c; omega⟩
    · rw [if_neg c2]
      by_cases c3 : c < 65536
      · rw [if_pos c3]
        have hcp : cp [224 + c / 4096, 128 + c / 64 % 64, 128 + c % 64] = c := by
          show ((224 + c / 4096 - 224) * 64 + (128 + c / 64 % 64) - 128) * 64 + (128 + c % 64) - 128 = c
          omega
        refine ⟨(enc3 _ _ _ (by omega) (by omega) (by omega)).1 ⟨by rw [hcp]; exact h, ?_⟩, hcp⟩
        rw [hcp]
        unfold enc
        rw [if_neg c1, if_neg c2, if_pos c3]
      · rw [if_neg c3]
        have hcp : cp [240 + c / 262144, 128 + c / 4096 % 64, 128 + c / 64 % 64, 128 + c % 64] = c := by
          show (((240 + c / 262144 - 240) * 64 + (128 + c / 4096 % 64) - 128) * 64 + (128 + c / 64 % 64) - 128) * 64 + (128 + c % 64) - 128 = c
          omega
        refine ⟨(enc4 _ _ _ _ (by omega) (by omega) (by omega) (by omega)).1 ⟨by rw [hcp]; exact h, ?_⟩, hcp⟩
        rw [hcp]
        unfold enc
        rw [if_neg c1, if_neg c2, if_neg c3]
theorem enc_bytes (c : Int) (h : sign c) : Bytes (enc c) := by
  unfold sign at h
  unfold enc
  intro x hx
  by_cases c1 : c < 128
  · rw [if_pos c1] at hx
    simp at hx
    omega
  · rw [if_neg c1] at hx
    by_cases c2 : c < 2048
    · rw [if_pos c2] at hx
      simp at hx
      omega
    · rw [if_neg c2] at hx
      by_cases c3 : c < 65536
      · rw [if_pos c3] at hx
        simp at hx
        omega
      · rw [if_neg c3] at hx
        simp at hx
        omega
theorem sign65533 : sign 65533 := by decide
theorem enc'_bytes (c : Int) : Bytes (enc' c) := by
  unfold enc'
  split
  · rename_i h
    exact enc_bytes c h
  · exact enc_bytes _ sign65533
theorem enc'_len (c : Int) : (enc' c).length ≤ 4 := by
  unfold enc'
  split <;> exact enc_len _
theorem enc8_eq (c : Int) (h : sign c) : enc8 c = enc c := by
  have hv : Utf8.valid c = true := by
    rw [validRune_eq]
    unfold sign at h
    exact decide_eq_true (by omega)
  unfold enc8 Utf8.encode enc
  simp only [hv, if_true]
  obtain ⟨n, rfl⟩ : ∃ n : Nat, c = n := ⟨c.toNat, by unfold sign at h; omega⟩
  simp only [Int.toNat_natCast]
  unfold sign at h
  by_cases c1 : n < 128
  · rw [if_pos c1, if_pos (by omega)]
    simp
    omega
  · rw [if_neg c1, if_neg (show ¬ (n : Int) < 128 by omega)]
    by_cases c2 : n < 2048
    · rw [if_pos c2, if_pos (show (n : Int) < 2048 by omega)]
      simp
      omega
    · rw [if_neg c2, if_neg (show ¬ (n : Int) < 2048 by omega)]
      by_cases c3 : n < 65536
      · rw [if_pos c3, if_pos (show (n : Int) < 65536 by omega)]
        simp
        omega
      · rw [if_neg c3, if_neg (show ¬ (n : Int) < 65536 by omega)]
        simp
        omega
theorem RBytes_f (c : Int) : runes_Bytes.f c = some (enc' c) := by
  unfold runes_Bytes.f enc'
  by_cases h : sign c
  · rw [if_pos h, if_neg (by unfold sign at h; omega), enc8_eq c h]
  · rw [if_neg h, if_pos (by unfold sign at h; omega), enc8_eq _ sign65533]
theorem Text_l0 (l : List Int) (hl : l.length ≤ 1000000) : ∀ (d i : Nat) (o : List Int), l.length - i = d → i ≤ l.length → o.length ≤ 4 * i → Ev (fun k => runes_Text.l0 k o l (l.length : Int) (i : Int)) (strOfNums (o ++ (l.drop i).flatMap enc')) := by
  intro d
  induction d with
  | zero =>
    intro i o hd hi ho
    obtain rfl : i = l.length := by omega
    apply ev_succ
    simp only [runes_Text.l0, if_neg (show ¬ ((l.length : Int) < (l.length : Int)) by omega), List.drop_length, List.flatMap_nil, List.append_nil]
    exact ev_some _
  | succ d ih =>
    intro i o hd hi ho
    have hlt : i < l.length := by omega
    have hw : wrap64 ((i : Int) + 1) = ((i + 1 : Nat) : Int) := by rw [w64 (by omega) (by omega)]; omega
    have he := enc'_len l[i]
    apply ev_succ
    simp only [runes_Text.l0, if_pos (show (i : Int) < (l.length : Int) by omega), if_pos (show (0 : Int) ≤ (i : Int) by omega), rd_lt hlt, RBytes_f, Option.bind_some, if_pos (show o.length + (enc' l[i]).length < 140737488355328 by omega), hw]
    refine ev_eq (ih (i + 1) _ (by omega) (by omega) (by rw [List.length_append]; omega)) ?_
    rw [List.drop_eq_getElem_cons hlt, List.flatMap_cons, List.append_assoc]
theorem Text_ev (l : List Int) (hl : l.length ≤ 1000000) : Ev (fun k => runes_Text.f k l) (strOfNums (l.flatMap enc')) := by
  unfold runes_Text.f
  have := Text_l0 l hl l.length 0 [] (by omega) (by omega) (by simp)
  exact this

/-! #### blanks at the end of a text -/
/-- Signs without the blanks at their end. -/
def trimL (L : List Int) : List Int := (L.reverse.dropWhile (fun c => decide (c = 32))).reverse
theorem trimL_nil : trimL [] = [] := rfl
theorem trimL_blank (L : List Int) : trimL (L ++ [32]) = trimL L := by
  unfold trimL
  rw [List.reverse_append]
  rfl
theorem trimL_other (L : List Int) {c : Int} (h : c ≠ 32) : trimL (L ++ [c]) = L ++ [c] := by
  unfold trimL
  rw [List.reverse_append, List.reverse_singleton, List.singleton_append, List.dropWhile_cons_of_neg (by simpa using h), List.reverse_cons, List.reverse_reverse]
theorem enc'_last (c : Int) : ∃ p b, enc' c = p ++ [b] ∧ (c = 32 → p = [] ∧ b = 32) ∧ (b = 32 → c = 32) := by
  unfold enc'
  by_cases h : sign c
  · rw [if_pos h]
    unfold sign at h
    unfold enc
    repeat' split
    · exact ⟨[], c, rfl, fun h => ⟨rfl, h⟩, fun h => h⟩
    · exact ⟨[_], _, rfl, by omega, by omega⟩
    · exact ⟨[_, _], _, rfl, by omega, by omega⟩
    · exact ⟨[_, _, _], _, rfl, by omega, by omega⟩
  · rw [if_neg h]
    refine ⟨[239, 191], 189, by decide, fun hc => ?_, fun hb => by omega⟩
    exact absurd (by rw [hc]; decide) h
theorem str_len (l : List Int) : (strOfNums l).size = l.length := by
  unfold strOfNums
  show (List.map _ l).toArray.size = _
  simp
theorem bt_last (A : List Int) (b : Int) (hb : 0 ≤ b ∧ b ≤ 255) : bt (strOfNums (A ++ [b])) (A.length : Int) = b := by
  have hs : (strOfNums (A ++ [b])).size = A.length + 1 := by rw [str_len, List.length_append]; rfl
  have h : ((A.length : Int)).toNat < (strOfNums (A ++ [b])).size := by omega
  rw [← bt_at _ _ h]
  have e : (strOfNums (A ++ [b]))[((A.length : Int)).toNat]'h = UInt8.ofNat b.toNat := by
    show (strOfNums (A ++ [b])).data[((A.length : Int)).toNat]'h = _
    simp [strOfNums]
  rw [e, UInt8.toNat_ofNat', Nat.mod_eq_of_lt (by omega)]
  omega
theorem ext_last (A : List Int) (b : Int) : (strOfNums (A ++ [b])).extract 0 A.length = strOfNums A := by
  apply ByteArray.ext
  rw [ByteArray.data_extract]
  unfold strOfNums
  simp
theorem flat_len (Q : List Int) : (Q.flatMap enc').length ≤ 4 * Q.length := by
  induction Q with
  | nil => simp
  | cons c Q ih => rw [List.flatMap_cons, List.length_append, List.length_cons]; have := enc'_len c; omega
theorem trim_l0 (R : List Int) (hl : R.length ≤ 1000000) : Ev (fun k => strings_trimRightByte.l0 k (strOfNums (R.reverse.flatMap enc')) 32) (strOfNums ((trimL R.reverse).flatMap enc')) := by
  induction R with
  | nil =>
    apply ev_succ
    simp only [strings_trimRightByte.l0]
    exact ev_some _
  | cons c R ih =>
    rw [List.length_cons] at hl
    obtain ⟨p, b, he, h1, h2⟩ := enc'_last c
    have hbb : 0 ≤ b ∧ b ≤ 255 := by have := enc'_bytes c b (by rw [he]; simp); omega
    rw [List.reverse_cons, List.flatMap_append, List.flatMap_cons, List.flatMap_nil, List.append_nil, he, ← List.append_assoc]
    obtain ⟨F, hF⟩ : ∃ F, F = R.reverse.flatMap enc' := ⟨_, rfl⟩
    rw [← hF]
    have hlen : F.length ≤ 4 * R.length := by have := flat_len R.reverse; rw [List.length_reverse, ← hF] at this; exact this
    have hp : p.length ≤ 3 := by have := enc'_len c; rw [he, List.length_append, List.length_singleton] at this; omega
    have hs : (strOfNums (F ++ p ++ [b])).size = (F ++ p).length + 1 := by rw [str_len, List.length_append, List.length_singleton]
    have hfp : (F ++ p).length ≤ 4 * R.length + 3 := by rw [List.length_append]; omega
    have hw : wrap64 (((strOfNums (F ++ p ++ [b])).size : Int) - 1) = ((F ++ p).length : Int) := by rw [w64 (by omega) (by omega)]; omega
    apply ev_succ
    simp only [strings_trimRightByte.l0]
    rw [hw]
    simp only [if_pos (show ((strOfNums (F ++ p ++ [b])).size : Int) > 0 by omega), if_pos (show (0 : Int) ≤ ((F ++ p).length : Int) by omega), if_pos (show ((F ++ p).length : Int) < ((strOfNums (F ++ p ++ [b])).size : Int) by omega), if_pos (show ((F ++ p).length : Int) ≤ ((strOfNums (F ++ p ++ [b])).size : Int) by omega), bt_last _ b hbb, Int.toNat_natCast, ext_last]
    by_cases hb : b = 32
    · simp only [if_pos hb]
      obtain rfl := h2 hb
      obtain ⟨rfl, _⟩ := h1 rfl
      rw [trimL_blank, List.append_nil, hF]
      exact ih (by omega)
    · simp only [if_neg hb]
      have hc : c ≠ 32 := fun h => hb (h1 h).2
      rw [trimL_other _ hc, List.flatMap_append, List.flatMap_cons, List.flatMap_nil, List.append_nil, he, ← hF, ← List.append_assoc]
      exact ev_some _
theorem trim_ev (L : List Int) (hl : L.length ≤ 1000000) : Ev (fun k => strings_TrimRight.f k (strOfNums (L.flatMap enc')) (⟨#[32]⟩ : ByteArray)) (strOfNums ((trimL L).flatMap enc')) := by
  have h := trim_l0 L.reverse (by rw [List.length_reverse]; exact hl)
  rw [List.reverse_reverse] at h
  unfold strings_TrimRight.f
  simp only [if_true]
  by_cases h0 : (strOfNums (L.flatMap enc')).size = 0
  · simp only [if_pos h0]
    have : L = [] := by
      rcases List.eq_nil_or_concat L with h | ⟨A, c, rfl⟩
      · exact h
      · obtain ⟨p, b, he, _⟩ := enc'_last c
        rw [str_len, List.concat_eq_append, List.flatMap_append, List.flatMap_cons, he] at h0
        simp at h0
    subst this
    exact ev_some _
  · simp only [if_neg h0]
    exact h

/-! #### the text of cells -/
theorem cellText_l0 (l : List S28) (hl : l.length ≤ 1000000) : ∀ (d i : Nat) (o : List Int), l.length - i = d → i ≤ l.length → o.length = i → Ev (fun k => cell_Text.l0 k o l (l.length : Int) (i : Int)) (strOfNums ((trimL (o ++ (l.drop i).map S28.f0)).flatMap enc')) := by
  intro d
  induction d with
  | zero =>
    intro i o hd hi ho
    obtain rfl : i = l.length := by omega
    apply ev_succ
    simp only [cell_Text.l0, if_neg (show ¬ ((l.length : Int) < (l.length : Int)) by omega), List.drop_length, List.map_nil, List.append_nil]
    exact ev_bind (Text_ev o (by omega)) (ev_bind (trim_ev o (by omega)) (ev_some _))
  | succ d ih =>
    intro i o hd hi ho
    have hlt : i < l.length := by omega
    have hw : wrap64 ((i : Int) + 1) = ((i + 1 : Nat) : Int) := by rw [w64 (by omega) (by omega)]; omega
    apply ev_succ
    simp only [cell_Text.l0, if_pos (show (i : Int) < (l.length : Int) by omega), if_pos (show (0 : Int) ≤ (i : Int) by omega), rd28 l i hlt, if_pos (show o.length < 35184372088832 by omega), hw]
    refine ev_eq (ih (i + 1) _ (by omega) (by omega) (by rw [List.length_append, List.length_singleton]; omega)) ?_
    rw [List.drop_eq_getElem_cons hlt, List.map_cons, List.append_assoc, List.singleton_append]
theorem cellText_ev (l : List S28) (hl : l.length ≤ 1000000) : Ev (fun k => cell_Text.f k l) (strOfNums ((trimL (l.map S28.f0)).flatMap enc')) := by
  unfold cell_Text.f
  have := cellText_l0 l hl l.length 0 [] (by omega) (by omega) rfl
  exact this

theorem RCut_ev (l : List S28) (hl : l.length ≤ 1000000) : ∀ n, n ≤ l.length → (∀ i (h : i < l.length), n ≤ i → l[i] = blk) → ∃ m, cutAt l m ∧ Ev (fun k => batonref15_Cut.f k (l.take n)) (l.take m) := by
  intro n
  induction n with
  | zero =>
    intro _ hb
    refine ⟨0, ⟨by omega, fun h => absurd h (by omega), hb⟩, ?_⟩
    apply ev_succ
    simp only [batonref15_Cut.f, List.take_zero, List.length_nil, if_pos (show ((0 : Nat) : Int) = 0 from rfl)]
    exact ev_some _
  | succ n ih =>
    intro hn hb
    have hlt : n < l.length := by omega
    have htl : (l.take (n + 1)).length = n + 1 := by rw [List.length_take]; omega
    have hw : wrap64 (((n + 1 : Nat) : Int) - 1) = ((n : Nat) : Int) := by rw [w64 (by omega) (by omega)]; omega
    have e : (l.take (n + 1))[n]'(by omega) = l[n] := List.getElem_take
    by_cases he : l[n] = blk
    · obtain ⟨m, h1, h2⟩ := ih (by omega) (fun i h hi => by
        by_cases e : i = n
        · subst e; exact he
        · exact hb i h (by omega))
      refine ⟨m, h1, ?_⟩
      apply ev_succ
      simp only [batonref15_Cut.f, htl, hw, if_neg (show ¬ ((n + 1 : Nat) : Int) = 0 by omega), if_pos (show (0 : Int) ≤ (n : Int) by omega), if_pos (show (n : Int) < ((n + 1 : Nat) : Int) by omega), rd28 (l.take (n + 1)) n (by omega), e, he, neqb_self, Bool.false_eq_true, if_false, if_pos (show (n : Int) ≤ ((n + 1 : Nat) : Int) by omega), Int.toNat_natCast, List.take_take, Nat.min_eq_left (show n ≤ n + 1 by omega)]
      exact ev_bind h2 (ev_some _)
    · refine ⟨n + 1, ⟨hn, fun _ _ => he, hb⟩, ?_⟩
      apply ev_succ
      simp only [batonref15_Cut.f, htl, hw, if_neg (show ¬ ((n + 1 : Nat) : Int) = 0 by omega), if_pos (show (0 : Int) ≤ (n : Int) by omega), if_pos (show (n : Int) < ((n + 1 : Nat) : Int) by omega), rd28 (l.take (n + 1)) n (by omega), e, if_pos ((neqb _).2 he)]
      exact ev_some _
theorem cutAt_one {l : List S28} {m m' : Nat} (h : cutAt l m) (h' : cutAt l m') : m = m' := by
  rcases Nat.lt_trichotomy m m' with c | c | c
  · have := h'.1
    exact absurd (h.2.2 (m' - 1) (by omega) (by omega)) (h'.2.1 (by omega) (by omega))
  · exact c
  · have := h.1
    exact absurd (h'.2.2 (m - 1) (by omega) (by omega)) (h.2.1 (by omega) (by omega))
/-- Both cut alike. -/
theorem Cuts (l : List S28) (hl : l.length ≤ 1000000) : ∃ c : List S28, c.length ≤ l.length ∧ (∃ k, back_Cut.f k l = some c) ∧ Ev (fun k => batonref15_Cut.f k l) c := by
  obtain ⟨m, h1, h2⟩ := Cut_ev l hl
  obtain ⟨m', h3, h4⟩ := RCut_ev l hl l.length (Nat.le_refl _) (fun i h hi => absurd h (by omega))
  rw [List.take_length] at h4
  have := cutAt_one h1 h3
  subst this
  exact ⟨l.take m, by rw [List.length_take]; omega, h2.rounds, h4⟩
def pushV (M : Nat) (ws : List (List S28)) (c : List S28) : List (List S28) := if ws.length + 1 > M then (ws ++ [c]).drop 1 else ws ++ [c]
theorem RPush (ws : List (List S28)) (hw : ws.length ≤ 1000) (M : Nat) (row c : List S28) (h : Ev (fun k => batonref15_Cut.f k row) c) : ∃ k, batonref15_Push.f k ws (M : Int) row = some (pushV M ws c, if ws.length + 1 > M then 1 else 0) := by
  refine Ev.rounds ?_
  unfold batonref15_Push.f
  simp only [Option.bind_some, List.nil_append, List.length_nil, if_pos (show 0 + ws.length < 5864062014805 by omega), if_pos (show ws.length < 5864062014805 by omega)]
  refine ev_bind h ?_
  have hl : (ws ++ [c]).length = ws.length + 1 := by simp
  unfold pushV
  by_cases hc : ws.length + 1 > M
  · simp only [hl, if_pos hc, if_pos (show ((ws.length + 1 : Nat) : Int) > (M : Int) by omega), if_pos (show (1 : Int) ≤ ((ws.length + 1 : Nat) : Int) by omega)]
    exact ev_some _
  · simp only [hl, if_neg hc, if_neg (show ¬ ((ws.length + 1 : Nat) : Int) > (M : Int) by omega)]
    exact ev_some _
theorem few_l0 (l : List (List S28)) (hl : l.length ≤ 1000) : ∀ (d i : Nat), l.length - i = d → i ≤ l.length → ∃ b, Ev (fun k => batonlaw15_few.l0 k l (i : Int)) b ∧ (b = true → ∀ j (h : j < l.length), i ≤ j → l[j].length ≤ 20) := by
  intro d
  induction d with
  | zero =>
    intro i hd hi
    obtain rfl : i = l.length := by omega
    refine ⟨true, ?_, fun _ j h hj => absurd h (by omega)⟩
    apply ev_succ
    simp only [batonlaw15_few.l0, if_neg (show ¬ ((l.length : Int) < (l.length : Int)) by omega)]
    exact ev_some _
  | succ d ih =>
    intro i hd hi
    have hlt : i < l.length := by omega
    have hw : wrap64 ((i : Int) + 1) = ((i + 1 : Nat) : Int) := by rw [w64 (by omega) (by omega)]; omega
    have hrd : rd_L4 l (i : Int) = l[i] := by unfold rd_L4; simp [List.getD_eq_getElem?_getD, hlt]
    by_cases h20 : l[i].length ≤ 20
    · obtain ⟨b, h1, h2⟩ := ih (i + 1) (by omega) (by omega)
      refine ⟨b, ?_, fun hb j h hj => ?_⟩
      · apply ev_succ
        simp only [batonlaw15_few.l0, if_pos (show (i : Int) < (l.length : Int) by omega), if_pos (show (0 : Int) ≤ (i : Int) by omega), hrd, if_neg (show ¬ (l[i].length : Int) > 20 by omega), hw]
        exact h1
      · by_cases e : j = i
        · subst e; exact h20
        · exact h2 hb j h (by omega)
    · refine ⟨false, ?_, fun h => absurd h (by decide)⟩
      apply ev_succ
      simp only [batonlaw15_few.l0, if_pos (show (i : Int) < (l.length : Int) by omega), if_pos (show (0 : Int) ≤ (i : Int) by omega), hrd, if_pos (show (l[i].length : Int) > 20 by omega)]
      exact ev_some _
theorem few_ev (l : List (List S28)) : ∃ b k, batonlaw15_few.f k l = some b ∧ (b = true → l.length ≤ 130 ∧ ∀ j (h : j < l.length), l[j].length ≤ 20) := by
  by_cases hl : l.length ≤ 130
  · obtain ⟨b, h1, h2⟩ := few_l0 l (by omega) l.length 0 (by omega) (by omega)
    have h3 : Ev (fun k => batonlaw15_few.f k l) b := by
      unfold batonlaw15_few.f
      simp only [if_neg (show ¬ (l.length : Int) > 130 by omega)]
      exact h1
    obtain ⟨k, hk⟩ := h3.rounds
    exact ⟨b, k, hk, fun hb => ⟨hl, fun j h => h2 hb j h (Nat.zero_le _)⟩⟩
  · refine ⟨false, 0, ?_, fun h => absurd h (by decide)⟩
    unfold batonlaw15_few.f
    rw [if_pos (by omega)]
theorem text_ex (l : List S28) (hl : l.length ≤ 1000000) : ∃ r k, cell_Text.f k l = some r := ⟨_, (cellText_ev l hl).rounds⟩
theorem text_nil : cell_Text.f 6 [] = some ⟨#[]⟩ := by decide +kernel
theorem same_ex (l : List S28) (hl : l.length ≤ 1000000) : ∃ k, batonref09_Same.f k l l = some true := (CSame_ev l (by omega)).rounds
/-! #### the ring, as a list -/
theorem modlt {a M : Nat} (h : a < 2 * M) : a % M = if a < M then a else a - M := by
  split
  · exact Nat.mod_eq_of_lt (by assumption)
  · rw [Nat.mod_eq_sub_mod (by omega), Nat.mod_eq_of_lt (by omega)]
structure Vw (M first n : Nat) (ring ws : List (List S28)) : Prop where
  len : ws.length = n
  nM : n ≤ M
  fM : 0 < M → first < M
  at_ : ∀ j, j < n → ring[(first + j) % M]? = ws[j]?
theorem Vw.push {M first n : Nat} {ring ws : List (List S28)} (v : Vw M first n ring ws) (hM : 0 < M) (hr : ring.length = M) (c : List S28) : Vw M (pushF M first n) (pushN M n) (ring.set ((first + n) % M) c) (pushV M ws c) := by
  have hf := v.fM hM
  have hn := v.nM
  have hl := v.len
  have hix : (first + n) % M < M := Nat.mod_lt _ hM
  by_cases h : n < M
  · have e1 : pushF M first n = first := by unfold pushF; rw [if_pos h]
    have e2 : pushN M n = n + 1 := by unfold pushN; rw [if_pos h]
    have e3 : pushV M ws c = ws ++ [c] := by unfold pushV; rw [if_neg (by omega)]
    rw [e1, e2, e3]
    refine ⟨by simp [hl], by omega, fun _ => hf, fun j hj => ?_⟩
    by_cases e : j = n
    · subst e
      rw [List.getElem?_set_self (by omega), List.getElem?_append_right (by omega), hl, Nat.sub_self]
      rfl
    · have hne : (first + n) % M ≠ (first + j) % M := by
        rw [modlt (show first + n < 2 * M by omega), modlt (show first + j < 2 * M by omega)]
        split <;> split <;> omega
      rw [List.getElem?_set_ne hne, v.at_ j (by omega), List.getElem?_append_left (by omega)]
  · have hnM : n = M := by omega
    have e1 : pushF M first n = (first + 1) % M := by unfold pushF; rw [if_neg h]
    have e2 : pushN M n = n := by unfold pushN; rw [if_neg h]
    have e3 : pushV M ws c = (ws ++ [c]).drop 1 := by unfold pushV; rw [if_pos (by omega)]
    rw [e1, e2, e3]
    have hff : (first + n) % M = first := by rw [hnM, Nat.add_mod_right, Nat.mod_eq_of_lt hf]
    rw [hff]
    refine ⟨by simp [hl], by omega, fun _ => Nat.mod_lt _ hM, fun j hj => ?_⟩
    rw [List.getElem?_drop]
    by_cases e : j = n - 1
    · have hjj : ((first + 1) % M + j) % M = first := by
        rw [modlt (show first + 1 < 2 * M by omega)]
        split
        · rw [modlt (by omega)]
          split <;> omega
        · rw [modlt (by omega)]
          split <;> omega
      rw [hjj, List.getElem?_set_self (by omega), List.getElem?_append_right (by omega), hl, show 1 + j - n = 0 by omega]
      rfl
    · have hjj : ((first + 1) % M + j) % M = (first + (1 + j)) % M := by
        rw [Nat.mod_add_mod, Nat.add_assoc]
      have hne : first ≠ (first + (1 + j)) % M := by
        rw [modlt (show first + (1 + j) < 2 * M by omega)]
        split <;> omega
      rw [hjj, List.getElem?_set_ne hne, v.at_ (1 + j) (by omega), List.getElem?_append_left (by omega)]
theorem pushV_zero (c : List S28) : pushV 0 [] c = [] := rfl
theorem Vw.line {M first n : Nat} {ring ws : List (List S28)} (v : Vw M first n ring ws) (i : Nat) (hi : i < n) : ∃ ll, ring[(first + n - 1 - i) % M]? = some ll ∧ ws[n - 1 - i]? = some ll := by
  have h := v.at_ (n - 1 - i) (by omega)
  have hl := v.len
  rw [show first + (n - 1 - i) = first + n - 1 - i by omega] at h
  exact ⟨ws[n - 1 - i]'(by omega), by rw [h, List.getElem?_eq_getElem (by omega)], List.getElem?_eq_getElem (by omega)⟩

end Go.Proofs.YtgnbhomdkchcfaaDoor.LF15P
