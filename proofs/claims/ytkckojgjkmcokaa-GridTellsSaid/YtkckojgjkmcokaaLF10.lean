/- Plain lemmas on the functions of this family (GridTells): what each loop comes to. No condition. -/
import Derived.Test.YtkckojgjkmcokaaBase
import Derived.Test.YtkckojgjkmcokaaPF10x
namespace Go.Proofs.Ytkckojgjkmcokaa.LF10
open Go.RowKit Go.Proofs.Ytkckojgjkmcokaa.Base Go.Proofs.YtkckojgjkmcokaaW.PrintWords Go.Proofs.YtkckojgjkmcokaaW.PrintMore Go.Proofs.Ytkckojgjkmcokaa.PF10
set_option linter.unusedVariables false
set_option linter.unusedSimpArgs false

/-! ### cells and runs of cells -/
theorem rd53 (l : List S53) (i : Nat) (h : i < l.length) : rd_T53 l (i : Int) = l[i] := by
  unfold rd_T53
  simp [List.getD_eq_getElem?_getD, h]
theorem eqc (a b : S53) : (a.f0 == b.f0 && (a.f1.f0 == b.f1.f0 && (a.f1.f1 == b.f1.f1 && (a.f1.f2 == b.f1.f2)))) = true ↔ a = b := by
  obtain ⟨a0, a1, a2, a3⟩ := a
  obtain ⟨b0, b1, b2, b3⟩ := b
  simp
theorem eqc_ne {a b : S53} (h : a ≠ b) : (a.f0 == b.f0 && (a.f1.f0 == b.f1.f0 && (a.f1.f1 == b.f1.f1 && (a.f1.f2 == b.f1.f2)))) = false := Bool.eq_false_iff.2 (fun e => h ((eqc a b).1 e))
theorem neqc (a b : S53) : (!(a.f0 == b.f0) || (!(a.f1.f0 == b.f1.f0) || (!(a.f1.f1 == b.f1.f1) || !(a.f1.f2 == b.f1.f2)))) = true ↔ a ≠ b := by
  rw [← Bool.not_and, ← Bool.not_and, ← Bool.not_and, Bool.not_eq_true', Bool.eq_false_iff]
  exact not_congr (eqc a b)
theorem neqc_self (a : S53) : (!(a.f0 == a.f0) || (!(a.f1.f0 == a.f1.f0) || (!(a.f1.f1 == a.f1.f1) || !(a.f1.f2 == a.f1.f2)))) = false := by simp

/-! ### signs: the document's answer -/
def lo3 (a : Int) : Int := if a = 224 then 160 else 128
def hi3 (a : Int) : Int := if a = 237 then 159 else 191
def lo4 (a : Int) : Int := if a = 240 then 144 else 128
def hi4 (a : Int) : Int := if a = 244 then 143 else 191
def sign (c : Int) : Prop := 0 ≤ c ∧ c ≤ 1114111 ∧ (c < 55296 ∨ c > 57343)
instance (c : Int) : Decidable (sign c) := by unfold sign; infer_instance
def enc (c : Int) : List Int :=
  if c < 128 then [c] else if c < 2048 then [192 + c / 64, 128 + c % 64] else if c < 65536 then [224 + c / 4096, 128 + c / 64 % 64, 128 + c % 64]
  else [240 + c / 262144, 128 + c / 4096 % 64, 128 + c / 64 % 64, 128 + c % 64]
/-- Are bytes a sign? -/
def wh : List Int → Prop
  | [a] => a < 128
  | [a, b] => 194 ≤ a ∧ a ≤ 223 ∧ 128 ≤ b ∧ b ≤ 191
  | [a, b, c] => 224 ≤ a ∧ a ≤ 239 ∧ lo3 a ≤ b ∧ b ≤ hi3 a ∧ 128 ≤ c ∧ c ≤ 191
  | [a, b, c, d] => 240 ≤ a ∧ a ≤ 244 ∧ lo4 a ≤ b ∧ b ≤ hi4 a ∧ 128 ≤ c ∧ c ≤ 191 ∧ 128 ≤ d ∧ d ≤ 191
  | _ => False
instance : (x : List Int) → Decidable (wh x)
  | [] => isFalse id
  | [a] => by unfold wh; infer_instance
  | [a, b] => by unfold wh; infer_instance
  | [a, b, c] => by unfold wh; infer_instance
  | [a, b, c, d] => by unfold wh; infer_instance
  | _ :: _ :: _ :: _ :: _ :: _ => isFalse id
def cp : List Int → Int
  | [a] => a
  | [a, b] => (a - 192) * 64 + b - 128
  | [a, b, c] => ((a - 224) * 64 + b - 128) * 64 + c - 128
  | [a, b, c, d] => (((a - 240) * 64 + b - 128) * 64 + c - 128) * 64 + d - 128
  | _ => 0
/-- May bytes go on to a sign? -/
def beg : List Int → Prop
  | [a] => 194 ≤ a ∧ a ≤ 244
  | [a, b] => (224 ≤ a ∧ a ≤ 239 ∧ lo3 a ≤ b ∧ b ≤ hi3 a) ∨ (240 ≤ a ∧ a ≤ 244 ∧ lo4 a ≤ b ∧ b ≤ hi4 a)
  | [a, b, c] => 240 ≤ a ∧ a ≤ 244 ∧ lo4 a ≤ b ∧ b ≤ hi4 a ∧ 128 ≤ c ∧ c ≤ 191
  | _ => False
instance : (x : List Int) → Decidable (beg x)
  | [] => isFalse id
  | [a] => by unfold beg; infer_instance
  | [a, b] => by unfold beg; infer_instance
  | [a, b, c] => by unfold beg; infer_instance
  | _ :: _ :: _ :: _ :: _ => isFalse id
theorem lo3_ge (a : Int) : 128 ≤ lo3 a ∧ lo3 a ≤ 160 := by unfold lo3; split <;> omega
theorem hi3_le (a : Int) : hi3 a ≤ 191 ∧ 159 ≤ hi3 a := by unfold hi3; split <;> omega
theorem lo4_ge (a : Int) : 128 ≤ lo4 a ∧ lo4 a ≤ 144 := by unfold lo4; split <;> omega
theorem hi4_le (a : Int) : hi4 a ≤ 191 ∧ 143 ≤ hi4 a := by unfold hi4; split <;> omega
theorem enc1 (a : Int) (ha : 0 ≤ a ∧ a ≤ 255) : (sign a ∧ enc a = [a]) ↔ wh [a] := by
  show (sign a ∧ enc a = [a]) ↔ a < 128
  unfold sign enc
  constructor
  · rintro ⟨_, h⟩
    split at h
    · assumption
    · split at h
      · simp at h
      · split at h <;> simp at h
  · intro h
    rw [if_pos h]
    exact ⟨by omega, rfl⟩
theorem enc2 (a b : Int) (ha : 0 ≤ a ∧ a ≤ 255) (hb : 0 ≤ b ∧ b ≤ 255) : (sign (cp [a, b]) ∧ enc (cp [a, b]) = [a, b]) ↔ wh [a, b] := by
  show (sign ((a - 192) * 64 + b - 128) ∧ enc ((a - 192) * 64 + b - 128) = [a, b]) ↔ (194 ≤ a ∧ a ≤ 223 ∧ 128 ≤ b ∧ b ≤ 191)
  unfold sign enc
  constructor
  · rintro ⟨_, h⟩
    split at h
    · simp at h
    · split at h
      · simp only [List.cons.injEq, and_true] at h
        omega
      · split at h <;> simp at h
  · intro h
    rw [if_neg (by omega), if_pos (by omega)]
    refine ⟨by omega, ?_⟩
    simp only [List.cons.injEq, and_true]
    omega
theorem enc3 (a b c : Int) (ha : 0 ≤ a ∧ a ≤ 255) (hb : 0 ≤ b ∧ b ≤ 255) (hc : 0 ≤ c ∧ c ≤ 255) : (sign (cp [a, b, c]) ∧ enc (cp [a, b, c]) = [a, b, c]) ↔ wh [a, b, c] := by
  show (sign (((a - 224) * 64 + b - 128) * 64 + c - 128) ∧ enc (((a - 224) * 64 + b - 128) * 64 + c - 128) = [a, b, c]) ↔ (224 ≤ a ∧ a ≤ 239 ∧ (if a = 224 then 160 else 128) ≤ b ∧ b ≤ (if a = 237 then 159 else 191) ∧ 128 ≤ c ∧ c ≤ 191)
  unfold sign enc
  constructor
  · rintro ⟨_, h⟩
    split at h
    · simp at h
    · split at h
      · simp at h
      · split at h
        · simp only [List.cons.injEq, and_true] at h
          split <;> split <;> omega
        · simp at h
  · intro h
    rw [if_neg (by split at h <;> split at h <;> omega), if_neg (by split at h <;> split at h <;> omega), if_pos (by omega)]
    refine ⟨by split at h <;> split at h <;> omega, ?_⟩
    simp only [List.cons.injEq, and_true]
    split at h <;> split at h <;> omega
theorem enc4 (a b c d : Int) (ha : 0 ≤ a ∧ a ≤ 255) (hb : 0 ≤ b ∧ b ≤ 255) (hc : 0 ≤ c ∧ c ≤ 255) (hd : 0 ≤ d ∧ d ≤ 255) : (sign (cp [a, b, c, d]) ∧ enc (cp [a, b, c, d]) = [a, b, c, d]) ↔ wh [a, b, c, d] := by
  show (sign ((((a - 240) * 64 + b - 128) * 64 + c - 128) * 64 + d - 128) ∧ enc ((((a - 240) * 64 + b - 128) * 64 + c - 128) * 64 + d - 128) = [a, b, c, d]) ↔ (240 ≤ a ∧ a ≤ 244 ∧ (if a = 240 then 144 else 128) ≤ b ∧ b ≤ (if a = 244 then 143 else 191) ∧ 128 ≤ c ∧ c ≤ 191 ∧ 128 ≤ d ∧ d ≤ 191)
  unfold sign enc
  constructor
  · rintro ⟨_, h⟩
    split at h
    · simp at h
    · split at h
      · simp at h
      · split at h
        · simp at h
        · simp only [List.cons.injEq, and_true] at h
          split <;> split <;> omega
  · intro h
    rw [if_neg (by split at h <;> split at h <;> omega), if_neg (by split at h <;> split at h <;> omega), if_neg (by split at h <;> split at h <;> omega)]
    refine ⟨by split at h <;> split at h <;> omega, ?_⟩
    simp only [List.cons.injEq, and_true]
    split at h <;> split at h <;> omega
theorem Sign_f (c : Int) : batonref08_Sign.f c = some (decide (sign c)) := by
  unfold batonref08_Sign.f sign
  by_cases h1 : c ≥ 0
  · rw [if_pos h1]
    by_cases h2 : c ≤ 1114111
    · rw [if_pos h2]
      by_cases h3 : c < 55296
      · rw [if_pos h3]
        simp
        omega
      · rw [if_neg h3]
        exact congrArg some (decide_eq_decide.2 ⟨fun h => by omega, fun h => by omega⟩)
    · rw [if_neg h2]
      simp
      omega
  · rw [if_neg h1]
    simp
    omega
theorem enc_len (c : Int) : (enc c).length ≤ 4 := by
  unfold enc
  split
  · simp
  · split
    · simp
    · split <;> simp
def enc' (c : Int) : List Int := if sign c then enc c else enc 65533
theorem cp_nonneg : ∀ x, Bytes x → wh x → 0 ≤ cp x
  | [], _, h => h.elim
  | [a], hb, h => (hb a (by simp)).1
  | [a, b], hb, h => by
    have h2 : 194 ≤ a ∧ a ≤ 223 ∧ 128 ≤ b ∧ b ≤ 191 := h
    show 0 ≤ (a - 192) * 64 + b - 128
    omega
  | [a, b, c], hb, h => by
    have h2 : 224 ≤ a ∧ a ≤ 239 ∧ lo3 a ≤ b ∧ b ≤ hi3 a ∧ 128 ≤ c ∧ c ≤ 191 := h
    have := lo3_ge a
    show 0 ≤ ((a - 224) * 64 + b - 128) * 64 + c - 128
    omega
  | [a, b, c, d], hb, h => by
    have h2 : 240 ≤ a ∧ a ≤ 244 ∧ lo4 a ≤ b ∧ b ≤ hi4 a ∧ 128 ≤ c ∧ c ≤ 191 ∧ 128 ≤ d ∧ d ≤ 191 := h
    have := lo4_ge a
    show 0 ≤ (((a - 240) * 64 + b - 128) * 64 + c - 128) * 64 + d - 128
    omega
  | _ :: _ :: _ :: _ :: _ :: _, _, h => h.elim
theorem wh2_iff (a b : Int) : wh [a, b] ↔ (194 ≤ a ∧ a ≤ 223 ∧ 128 ≤ b ∧ b ≤ 191) := Iff.rfl
theorem wh3_iff (a b c : Int) : wh [a, b, c] ↔ (224 ≤ a ∧ a ≤ 239 ∧ lo3 a ≤ b ∧ b ≤ hi3 a ∧ 128 ≤ c ∧ c ≤ 191) := Iff.rfl
theorem wh4_iff (a b c d : Int) : wh [a, b, c, d] ↔ (240 ≤ a ∧ a ≤ 244 ∧ lo4 a ≤ b ∧ b ≤ hi4 a ∧ 128 ≤ c ∧ c ≤ 191 ∧ 128 ≤ d ∧ d ≤ 191) := Iff.rfl
/-! #### Put -/
def ref1 (b : Int) : List Int × List Int := if wh [b] then ([], [b]) else if beg [b] then ([b], []) else ([], [65533])
def refPut (W : List Int) (b : Int) : List Int × List Int :=
  if wh (W ++ [b]) then ([], [cp (W ++ [b])]) else if beg (W ++ [b]) then (W ++ [b], []) else if W = [] then ([], [65533]) else ((ref1 b).1, 65533 :: (ref1 b).2)
theorem refPut_nil (b : Int) : refPut [] b = ref1 b := by
  unfold refPut ref1
  simp only [List.nil_append, if_true]
  rfl
theorem ref1_len (b : Int) : (ref1 b).2.length ≤ 1 := by
  unfold ref1
  split
  · simp
  · split <;> simp

/-! #### a sign's own bytes -/
theorem whenc (c : Int) (h : sign c) : wh (enc c) ∧ cp (enc c) = c := by
  have h0 := h
  unfold sign at h0
  unfold enc
  by_cases c1 : c < 128
  · rw [if_pos c1]
    exact ⟨c1, rfl⟩
  · rw [if_neg c1]
    by_cases c2 : c < 2048
    · rw [if_pos c2]
      exact ⟨⟨by omega, by omega, by omega, by omega⟩, by show (192 + c / 64 - 192) * 64 + (128 + c % 64) - 128 = c; omega⟩
    · rw [if_neg c2]
      by_cases c3 : c < 65536
      · rw [if_pos c3]
        have hcp : cp [224 + c / 4096, 128 + c / 64 % 64, 128 + c % 64] = c := by
          show ((224 + c / 4096 - 224) * 64 + (128 + c / 64 % 64) - 128) * 64 + (128 + c % 64) - 128 = c
          omega
        refine ⟨(enc3 _ _ _ (by omega) (by omega) (by omega)).1 ⟨by rw [hcp]; exact h, ?_⟩, hcp⟩
        rw [hcp]
        unfold enc
        rw [if_neg c1, if_neg c2, if_pos c3]
      · rw [if_neg c3]
        have hcp : cp [240 + c / 262144, 128 + c / 4096 % 64, 128 + c / 64 % 64, 128 + c % 64] = c := by
          show (((240 + c / 262144 - 240) * 64 + (128 + c / 4096 % 64) - 128) * 64 + (128 + c / 64 % 64) - 128) * 64 + (128 + c % 64) - 128 = c
          omega
        refine ⟨(enc4 _ _ _ _ (by omega) (by omega) (by omega) (by omega)).1 ⟨by rw [hcp]; exact h, ?_⟩, hcp⟩
        rw [hcp]
        unfold enc
        rw [if_neg c1, if_neg c2, if_neg c3]
theorem enc_bytes (c : Int) (h : sign c) : Bytes (enc c) := by
  unfold sign at h
  unfold enc
  intro x hx
  by_cases c1 : c < 128
  · rw [if_pos c1] at hx
    simp at hx
    omega
  · rw [if_neg c1] at hx
    by_cases c2 : c < 2048
    · rw [if_pos c2] at hx
      simp at hx
      omega
    · rw [if_neg c2] at hx
      by_cases c3 : c < 65536
      · rw [if_pos c3] at hx
        simp at hx
        omega
      · rw [if_neg c3] at hx
        simp at hx
        omega
theorem sign65533 : sign 65533 := by decide
theorem enc'_bytes (c : Int) : Bytes (enc' c) := by
  unfold enc'
  split
  · rename_i h
    exact enc_bytes c h
  · exact enc_bytes _ sign65533
theorem enc'_len (c : Int) : (enc' c).length ≤ 4 := by
  unfold enc'
  split <;> exact enc_len _
theorem enc8_eq (c : Int) (h : sign c) : enc8 c = enc c := by
  have hv : Utf8.valid c = true := by
    rw [validRune_eq]
    unfold sign at h
    exact decide_eq_true (by omega)
  unfold enc8 Utf8.encode enc
  simp only [hv, if_true]
  obtain ⟨n, rfl⟩ : ∃ n : Nat, c = n := ⟨c.toNat, by unfold sign at h; omega⟩
  simp only [Int.toNat_natCast]
  unfold sign at h
  by_cases c1 : n < 128
  · rw [if_pos c1, if_pos (by omega)]
    simp
    omega
  · rw [if_neg c1, if_neg (show ¬ (n : Int) < 128 by omega)]
    by_cases c2 : n < 2048
    · rw [if_pos c2, if_pos (show (n : Int) < 2048 by omega)]
      simp
      omega
    · rw [if_neg c2, if_neg (show ¬ (n : Int) < 2048 by omega)]
      by_cases c3 : n < 65536
      · rw [if_pos c3, if_pos (show (n : Int) < 65536 by omega)]
        simp
        omega
      · rw [if_neg c3, if_neg (show ¬ (n : Int) < 65536 by omega)]
        simp
        omega
theorem RBytes_f (c : Int) : runes_Bytes.f c = some (enc' c) := by
  unfold runes_Bytes.f enc'
  by_cases h : sign c
  · rw [if_pos h, if_neg (by unfold sign at h; omega), enc8_eq c h]
  · rw [if_neg h, if_pos (by unfold sign at h; omega), enc8_eq _ sign65533]

theorem nums_back : ∀ (a : List Int), Bytes a → (a.map fun n => UInt8.ofNat n.toNat).map (fun u => (u.toNat : Int)) = a
  | [], _ => rfl
  | x :: t, h => by
    have h1 := h x (by simp)
    have h2 := nums_back t (fun y hy => h y (by simp [hy]))
    rw [List.map_cons, List.map_cons, h2]
    congr 1
    simp
    omega
theorem strs {a b : List Int} (ha : Bytes a) (hb : Bytes b) : ((strOfNums a).toList != (strOfNums b).toList) = decide (a ≠ b) := by
  rw [ByteArray.toList_eq, ByteArray.toList_eq, strOfNums_data, strOfNums_data]
  by_cases h : a = b
  · subst h
    simp
  · rw [decide_eq_true h]
    refine bne_iff_ne.2 (fun e => h ?_)
    rw [← nums_back a ha, ← nums_back b hb, e]
def okp (f b m : Int) : Prop := 0 ≤ f ∧ f ≤ 256 ∧ 0 ≤ b ∧ b ≤ 256 ∧ 0 ≤ m ∧ m < 128
instance (f b m : Int) : Decidable (okp f b m) := by unfold okp; infer_instance
theorem Pen_f (a b c : Int) : cell_Pen.f a b c = some (decide (okp a b c)) := by
  unfold cell_Pen.f
  repeat' split
  all_goals first | exact congrArg some (decide_eq_false (by unfold okp; omega)).symm | exact congrArg some (decide_eq_decide.2 ⟨fun h => by unfold okp; omega, fun h => by unfold okp at h; omega⟩)
def okc (c : Int) : Prop := ((32 ≤ c ∧ c ≤ 126) ∨ 160 ≤ c) ∧ sign c
instance (c : Int) : Decidable (okc c) := by unfold okc; infer_instance
theorem enc'_ne (c : Int) (h : ¬ c = 65533) : enc' c ≠ enc' 65533 ↔ sign c := by
  constructor
  · intro hne
    refine Decidable.byContradiction (fun hs => hne ?_)
    unfold enc'
    rw [if_neg hs, if_pos sign65533]
  · intro hs e
    unfold enc' at e
    rw [if_pos hs, if_pos sign65533] at e
    apply h
    rw [← (whenc c hs).2, e]
    rfl
theorem CRight_ev (c f b m : Int) : Ev (fun k => cell_Right.f k c f b m) (decide (okc c ∧ okp f b m)) := by
  have jt : ¬ (okc c ∧ okp f b m) → Ev (fun k => cell_Right.j0 k true c f b m) (decide (okc c ∧ okp f b m)) := fun h => by
    apply ev_succ
    simp only [cell_Right.j0, if_true]
    exact ev_eq (ev_some _) (decide_eq_false h).symm
  have jf : ((32 ≤ c ∧ c ≤ 126) ∨ 160 ≤ c) → okp f b m → Ev (fun k => cell_Right.j0 k false c f b m) (decide (okc c ∧ okp f b m)) := fun h1 h2 => by
    apply ev_succ
    simp only [cell_Right.j0, Bool.false_eq_true, if_false, RBytes_f, Option.bind_some]
    by_cases h3 : c = 65533
    · simp only [if_pos h3]
      exact ev_eq (ev_some _) (decide_eq_true ⟨⟨h1, by rw [h3]; exact sign65533⟩, h2⟩).symm
    · simp only [if_neg h3]
      refine ev_eq (ev_some _) ?_
      rw [strs (enc'_bytes c) (enc'_bytes _)]
      exact decide_eq_decide.2 ((enc'_ne c h3).trans ⟨fun h => ⟨⟨h1, h⟩, h2⟩, fun h => h.1.2⟩)
  have jp : ((32 ≤ c ∧ c ≤ 126) ∨ 160 ≤ c) → Ev (fun k => (cell_Pen.f f b m).bind fun t => cell_Right.j0 k (!t) c f b m) (decide (okc c ∧ okp f b m)) := fun h1 => by
    simp only [Pen_f, Option.bind_some]
    by_cases h2 : okp f b m
    · rw [decide_eq_true h2]
      exact jf h1 h2
    · rw [decide_eq_false h2]
      exact jt (fun h => h2 h.2)
  unfold cell_Right.f
  by_cases c1 : c < 32
  · simp only [if_pos c1]
    exact jt (fun h => by have := h.1.1; omega)
  · by_cases c2 : c > 126
    · by_cases c3 : c < 160
      · simp only [if_neg c1, if_pos c2, if_pos c3]
        exact jt (fun h => by have := h.1.1; omega)
      · simp only [if_neg c1, if_pos c2, if_neg c3]
        exact jp (.inr (by omega))
    · simp only [if_neg c1, if_neg c2]
      exact jp (.inl (by omega))
theorem RRight_f (c f b m : Int) (h0 : -2147483648 ≤ c) (h1 : c ≤ 2147483647) : batonref09_Right.f c f b m = some (decide (okc c ∧ okp f b m)) := by
  unfold batonref09_Right.f
  rw [w64 (x := c) (by omega) (by omega)]
  simp only [Sign_f, Option.bind_some]
  repeat' split
  all_goals first | exact congrArg some (decide_eq_false (fun h => by have := h.1.1; have h2 := h.2; unfold okp at h2; omega)).symm | exact congrArg some (decide_eq_decide.2 ⟨fun h => ⟨⟨by omega, h⟩, by unfold okp; omega⟩, fun h => h.1.2⟩)

/-! ### boards of cells -/
instance : DecidableEq S53 := fun a b => decidable_of_iff _ (eqc a b)
theorem rdc (l : List S53) {i : Int} (h0 : 0 ≤ i) (h : i < l.length) : rd_T53 l i = l[i.toNat]'(by omega) := by
  obtain ⟨j, rfl⟩ := Int.eq_ofNat_of_zero_le h0
  exact rd53 l j (by omega)
theorem RSame_l0 (a b : List S53) (hab : a.length = b.length) (hl : a.length ≤ 9000000000000000000) : ∀ (d i : Nat), a.length - i = d → i ≤ a.length → Ev (fun k => batonref09_Same.l0 k a b (i : Int)) (decide (a.drop i = b.drop i)) := by
  intro d
  induction d with
  | zero =>
    intro i hd hi
    obtain rfl : i = a.length := by omega
    apply ev_succ
    simp only [batonref09_Same.l0, if_neg (show ¬ ((a.length : Int) < (a.length : Int)) by omega)]
    refine ev_eq (ev_some _) (decide_eq_true ?_).symm
    rw [List.drop_of_length_le (Nat.le_refl _), List.drop_of_length_le (by omega)]
  | succ d ih =>
    intro i hd hi
    have hlt : i < a.length := by omega
    have hltb : i < b.length := by omega
    have hw : wrap64 ((i : Int) + 1) = ((i + 1 : Nat) : Int) := by rw [w64 (by omega) (by omega)]; omega
    apply ev_succ
    simp only [batonref09_Same.l0, if_pos (show (i : Int) < (a.length : Int) by omega), if_pos (show (i : Int) < (b.length : Int) by omega), if_pos (show (0 : Int) ≤ (i : Int) by omega), rd53 a i hlt, rd53 b i hltb, hw]
    by_cases he : a[i] = b[i]
    · rw [he]
      simp only [neqc_self, Bool.false_eq_true, if_false]
      refine ev_eq (ih (i + 1) (by omega) (by omega)) (decide_eq_decide.2 ?_)
      have h1 := List.drop_eq_getElem_cons hlt
      have h2 := List.drop_eq_getElem_cons hltb
      rw [h1, h2, he]
      exact ⟨fun h => by rw [h], fun h => (List.cons.inj h).2⟩
    · simp only [if_pos ((neqc a[i] b[i]).2 he)]
      refine ev_eq (ev_some _) (decide_eq_false (fun h => he ?_)).symm
      rw [List.drop_eq_getElem_cons hlt, List.drop_eq_getElem_cons hltb] at h
      exact (List.cons.inj h).1
theorem RSame_ev (a b : List S53) (hl : a.length ≤ 9000000000000000000) : Ev (fun k => batonref09_Same.f k a b) (decide (a = b)) := by
  unfold batonref09_Same.f
  by_cases h : a.length = b.length
  · simp only [if_pos (show (a.length : Int) = (b.length : Int) by omega)]
    exact RSame_l0 a b h hl a.length 0 (by omega) (by omega)
  · simp only [if_neg (show ¬ (a.length : Int) = (b.length : Int) by omega)]
    exact ev_eq (ev_some _) (decide_eq_false (fun e => h (by rw [e]))).symm
def okcell (x : S53) : Prop := okc x.f0 ∧ okp x.f1.f0 x.f1.f1 x.f1.f2
instance (x : S53) : Decidable (okcell x) := by unfold okcell; infer_instance
def szok (r c : Int) : Prop := 1 ≤ r ∧ r ≤ 60 ∧ 1 ≤ c ∧ c ≤ 132
instance (r c : Int) : Decidable (szok r c) := by unfold szok; infer_instance
theorem size_f (r c : Int) : grid_size.f r c = some (decide (szok r c)) := by
  unfold grid_size.f
  repeat' split
  all_goals first | exact congrArg some (decide_eq_false (by unfold szok; omega)).symm | exact congrArg some (decide_eq_decide.2 ⟨fun h => by unfold szok; omega, fun h => by unfold szok at h; omega⟩)
theorem Size_f (r c : Int) : batonref10_Size.f r c = some (decide (szok r c)) := by
  unfold batonref10_Size.f
  repeat' split
  all_goals first | exact congrArg some (decide_eq_false (by unfold szok; omega)).symm | exact congrArg some (decide_eq_decide.2 ⟨fun h => by unfold szok; omega, fun h => by unfold szok at h; omega⟩)
theorem szok_mul {r c : Int} (h : szok r c) : wrap64 (r * c) = r * c ∧ 1 ≤ r * c ∧ r * c ≤ 7920 := by
  obtain ⟨h1, h2, h3, h4⟩ := h
  have a1 : r * c ≤ 60 * 132 := Int.mul_le_mul h2 h4 (by omega) (by omega)
  have a2 : 1 * 1 ≤ r * c := Int.mul_le_mul h1 h3 (by omega) (by omega)
  exact ⟨w64 (by omega) (by omega), by omega, by omega⟩
def i32s (l : List S53) : Prop := ∀ x ∈ l, -2147483648 ≤ x.f0 ∧ x.f0 ≤ 2147483647
def okg (r c : Int) (l : List S53) : Prop := szok r c ∧ (l.length : Int) = r * c ∧ l.all (fun x => decide (okcell x)) = true
instance (r c : Int) (l : List S53) : Decidable (okg r c l) := by unfold okg; infer_instance
theorem GRight_l0 (l : List S53) (hl : l.length ≤ 9000000000000000000) : ∀ (d i : Nat), l.length - i = d → i ≤ l.length → Ev (fun k => grid_Right.l0 k l (l.length : Int) (i : Int)) ((l.drop i).all (fun x => decide (okcell x))) := by
  intro d
  induction d with
  | zero =>
    intro i hd hi
    obtain rfl : i = l.length := by omega
    apply ev_succ
    simp only [grid_Right.l0, if_neg (show ¬ ((l.length : Int) < (l.length : Int)) by omega)]
    refine ev_eq (ev_some _) ?_
    rw [List.drop_of_length_le (Nat.le_refl _)]
    rfl
  | succ d ih =>
    intro i hd hi
    have hlt : i < l.length := by omega
    have hw : wrap64 ((i : Int) + 1) = ((i + 1 : Nat) : Int) := by rw [w64 (by omega) (by omega)]; omega
    apply ev_succ
    simp only [grid_Right.l0, if_pos (show (i : Int) < (l.length : Int) by omega), if_pos (show (0 : Int) ≤ (i : Int) by omega), rd53 l i hlt, hw]
    rw [List.drop_eq_getElem_cons hlt, List.all_cons]
    refine ev_bind (CRight_ev _ _ _ _) ?_
    by_cases he : okcell l[i]
    · simp only [decide_eq_true (show okc l[i].f0 ∧ okp l[i].f1.f0 l[i].f1.f1 l[i].f1.f2 from he), decide_eq_true he, Bool.true_and, if_true]
      exact ih (i + 1) (by omega) (by omega)
    · simp only [decide_eq_false (show ¬ (okc l[i].f0 ∧ okp l[i].f1.f0 l[i].f1.f1 l[i].f1.f2) from he), decide_eq_false he, Bool.false_and, Bool.false_eq_true, if_false]
      exact ev_some _
theorem RGRight_l0 (r c : Int) (l : List S53) (h32 : i32s l) (hl : l.length ≤ 9000000000000000000) : ∀ (d i : Nat), l.length - i = d → i ≤ l.length → Ev (fun k => batonref10_Right.l0 k (i : Int) r c l) ((l.drop i).all (fun x => decide (okcell x))) := by
  intro d
  induction d with
  | zero =>
    intro i hd hi
    obtain rfl : i = l.length := by omega
    apply ev_succ
    simp only [batonref10_Right.l0, if_neg (show ¬ ((l.length : Int) < (l.length : Int)) by omega)]
    refine ev_eq (ev_some _) ?_
    rw [List.drop_of_length_le (Nat.le_refl _)]
    rfl
  | succ d ih =>
    intro i hd hi
    have hlt : i < l.length := by omega
    have hw : wrap64 ((i : Int) + 1) = ((i + 1 : Nat) : Int) := by rw [w64 (by omega) (by omega)]; omega
    have hb := h32 l[i] (List.getElem_mem hlt)
    apply ev_succ
    simp only [batonref10_Right.l0, if_pos (show (i : Int) < (l.length : Int) by omega), if_pos (show (0 : Int) ≤ (i : Int) by omega), rd53 l i hlt, hw, RRight_f _ _ _ _ hb.1 hb.2, Option.bind_some]
    rw [List.drop_eq_getElem_cons hlt, List.all_cons]
    by_cases he : okcell l[i]
    · simp only [decide_eq_true (show okc l[i].f0 ∧ okp l[i].f1.f0 l[i].f1.f1 l[i].f1.f2 from he), decide_eq_true he, Bool.true_and, if_true]
      exact ih (i + 1) (by omega) (by omega)
    · simp only [decide_eq_false (show ¬ (okc l[i].f0 ∧ okp l[i].f1.f0 l[i].f1.f1 l[i].f1.f2) from he), decide_eq_false he, Bool.false_and, Bool.false_eq_true, if_false]
      exact ev_some _
theorem bne_len {n : Nat} {m : Int} : ((n : Int) != m) = true ↔ ¬ (n : Int) = m := by simp
theorem GRight_ev (r c : Int) (l : List S53) (hl : l.length ≤ 9000000000000000000) : Ev (fun k => grid_Right.f k r c l) (decide (okg r c l)) := by
  unfold grid_Right.f
  simp only [size_f, Option.bind_some]
  by_cases hs : szok r c
  · simp only [decide_eq_true hs, if_true, (szok_mul hs).1]
    apply ev_succ
    simp only [grid_Right.j0]
    by_cases hn : (l.length : Int) = r * c
    · simp only [if_neg (show ¬ ((l.length : Int) != r * c) = true from fun h => bne_len.1 h hn)]
      exact ev_eq (GRight_l0 l hl l.length 0 (by omega) (by omega)) (by
        rw [List.drop_zero]
        by_cases ha : l.all (fun x => decide (okcell x)) = true
        · rw [ha, decide_eq_true (show okg r c l from ⟨hs, hn, ha⟩)]
        · rw [Bool.eq_false_iff.2 ha, decide_eq_false (fun h => ha h.2.2)])
    · simp only [if_pos (bne_len.2 hn)]
      exact ev_eq (ev_some _) (decide_eq_false (fun h => hn h.2.1)).symm
  · simp only [decide_eq_false hs, Bool.false_eq_true, if_false]
    apply ev_succ
    simp only [grid_Right.j0, if_true]
    exact ev_eq (ev_some _) (decide_eq_false (fun h => hs h.1)).symm
theorem RGRight_ev (r c : Int) (l : List S53) (h32 : i32s l) (hl : l.length ≤ 9000000000000000000) : Ev (fun k => batonref10_Right.f k r c l) (decide (okg r c l)) := by
  unfold batonref10_Right.f
  simp only [Size_f, Option.bind_some]
  by_cases hs : szok r c
  · simp only [decide_eq_true hs, if_true, (szok_mul hs).1]
    apply ev_succ
    simp only [batonref10_Right.j0]
    by_cases hn : (l.length : Int) = r * c
    · simp only [if_neg (show ¬ ((l.length : Int) != r * c) = true from fun h => bne_len.1 h hn)]
      exact ev_eq (RGRight_l0 r c l h32 hl l.length 0 (by omega) (by omega)) (by
        rw [List.drop_zero]
        by_cases ha : l.all (fun x => decide (okcell x)) = true
        · rw [ha, decide_eq_true (show okg r c l from ⟨hs, hn, ha⟩)]
        · rw [Bool.eq_false_iff.2 ha, decide_eq_false (fun h => ha h.2.2)])
    · simp only [if_pos (bne_len.2 hn)]
      exact ev_eq (ev_some _) (decide_eq_false (fun h => hn h.2.1)).symm
  · simp only [decide_eq_false hs, Bool.false_eq_true, if_false]
    apply ev_succ
    simp only [batonref10_Right.j0, if_true]
    exact ev_eq (ev_some _) (decide_eq_false (fun h => hs h.1)).symm
theorem Clone_f (l : List S53) (h : l.length ≤ 1000000) : api_Cell_75.f l = some l := by
  unfold api_Cell_75.f
  rw [if_pos (by omega)]
theorem Of_ev (r c : Int) (l : List S53) (hl : l.length ≤ 1000000) : Ev (fun k => grid_Of.f k r c l) (if okg r c l then (true, r, c, l, 0) else (false, 0, 0, [], 22)) := by
  unfold grid_Of.f
  refine ev_bind (GRight_ev r c l (by omega)) ?_
  by_cases h : okg r c l
  · simp only [decide_eq_true h, if_true, Clone_f l hl, Option.bind_some, if_pos h]
    exact ev_some _
  · simp only [decide_eq_false h, Bool.false_eq_true, if_false, if_neg h]
    exact ev_some _
theorem Grid_f (r c : Int) (l : List S53) (hl : l.length ≤ 1000000) : grid_Board_Grid.f r c l = some (r, c, l, r, c, l) := by
  unfold grid_Board_Grid.f
  rw [Clone_f l hl]
  rfl
theorem RGSame_ev (r c : Int) (l : List S53) (r' c' : Int) (l' : List S53) (hl : l.length ≤ 1000000) : Ev (fun k => batonref10_Same.f k r c l r' c' l') (decide (r = r' ∧ c = c' ∧ l = l')) := by
  unfold batonref10_Same.f
  by_cases h1 : r = r'
  · by_cases h2 : c = c'
    · simp only [if_pos h1, if_pos h2]
      refine ev_bind (RSame_ev l l' (by omega)) (ev_eq (ev_some _) (decide_eq_decide.2 ⟨fun h => ⟨h1, h2, h⟩, fun h => h.2.2⟩))
    · simp only [if_pos h1, if_neg h2]
      exact ev_eq (ev_some _) (decide_eq_false (fun h => h2 h.2.1)).symm
  · simp only [if_neg h1]
    exact ev_eq (ev_some _) (decide_eq_false (fun h => h1 h.1)).symm
/-! #### the page's example -/
theorem blanks_l0 (n : Nat) (hn : n ≤ 1000000) : ∀ (d i : Nat) (l : List S53), n - i = d → i ≤ n → l.length = n → Ev (fun k => grid_blanks.l0 k l (n : Int) (i : Int)) (l.take i ++ List.replicate (n - i) (⟨32, ⟨0, 0, 0⟩⟩ : S53)) := by
  intro d
  induction d with
  | zero =>
    intro i l hd hi hl
    obtain rfl : i = n := by omega
    apply ev_succ
    simp only [grid_blanks.l0, if_neg (show ¬ ((i : Int) < (i : Int)) by omega)]
    refine ev_eq (ev_some _) ?_
    rw [Nat.sub_self, List.take_of_length_le (by omega)]
    simp
  | succ d ih =>
    intro i l hd hi hl
    have hw : wrap64 ((i : Int) + 1) = ((i + 1 : Nat) : Int) := by rw [w64 (by omega) (by omega)]; omega
    apply ev_succ
    simp only [grid_blanks.l0, cell_Blank.f, Option.bind_some, if_pos (show (i : Int) < (n : Int) by omega), if_pos (show (0 : Int) ≤ (i : Int) by omega), if_pos (show (i : Int) < (l.length : Int) by omega), hw, Int.toNat_natCast]
    refine ev_eq (ih (i + 1) (l.set i (⟨32, ⟨0, 0, 0⟩⟩ : S53)) (by omega) (by omega) (by rw [List.length_set]; exact hl)) ?_
    rw [List.take_succ_eq_append_getElem (by rw [List.length_set]; omega), List.getElem_set_self, List.take_set_of_le (Nat.le_refl _), show n - i = (n - (i + 1)) + 1 by omega, List.replicate_succ, List.append_assoc]
    rfl
theorem blanks_ev (n : Nat) (hn : n ≤ 1000000) : Ev (fun k => grid_blanks.f k (n : Int)) (List.replicate n (⟨32, ⟨0, 0, 0⟩⟩ : S53)) := by
  unfold grid_blanks.f
  simp only [if_pos (show (0 : Int) ≤ (n : Int) by omega), Int.toNat_natCast, if_pos (show n ≤ 8796093022208 by omega), Option.bind_some, List.length_replicate]
  exact ev_eq (blanks_l0 n hn n 0 (List.replicate n z53) (by omega) (by omega) (by simp)) (by simp)
theorem New_ev (r c : Int) (h : szok r c) : Ev (fun k => grid_New.f k r c) (true, r, c, List.replicate (r * c).toNat (⟨32, ⟨0, 0, 0⟩⟩ : S53), 0) := by
  obtain ⟨h1, h2, h3⟩ := szok_mul h
  unfold grid_New.f
  simp only [size_f, decide_eq_true h, Option.bind_some, if_true, h1]
  have hb := blanks_ev (r * c).toNat (by omega)
  rw [show (((r * c).toNat : Nat) : Int) = r * c by omega] at hb
  exact ev_bind hb (ev_some _)
theorem there_f (r c : Int) (l : List S53) (a b : Int) : grid_Board_there.f r c l a b = some (decide (0 ≤ a ∧ a < r ∧ 0 ≤ b ∧ b < c), r, c, l) := by
  unfold grid_Board_there.f
  repeat' split
  all_goals first
    | exact congrArg (fun z => some (z, r, c, l)) (decide_eq_false (by omega)).symm
    | exact congrArg (fun z => some (z, r, c, l)) (decide_eq_decide.2 ⟨fun h => by omega, fun h => by omega⟩)
theorem place {r c a b : Int} {n : Nat} (h : 0 ≤ a ∧ a < r ∧ 0 ≤ b ∧ b < c) (hr : r ≤ 10000) (hc : c ≤ 10000) (hn : (n : Int) = r * c) : wrap64 (wrap64 (a * c) + b) = a * c + b ∧ 0 ≤ a * c ∧ a * c + c ≤ n := by
  obtain ⟨h1, h2, h3, h4⟩ := h
  have a1 : 0 ≤ a * c := Int.mul_nonneg h1 (by omega)
  have a2 : (a + 1) * c = a * c + c := by rw [Int.add_mul, Int.one_mul]
  have a3 : (a + 1) * c ≤ r * c := Int.mul_le_mul_of_nonneg_right (by omega) (by omega)
  have a4 : r * c ≤ 10000 * 10000 := Int.mul_le_mul hr hc (by omega) (by omega)
  rw [w64 (x := a * c) (by omega) (by omega), w64 (by omega) (by omega)]
  omega
theorem Put_ev (r c : Int) (l : List S53) (a b : Int) (x : S53) (h : 0 ≤ a ∧ a < r ∧ 0 ≤ b ∧ b < c) (hr : r ≤ 10000) (hc : c ≤ 10000) (hn : (l.length : Int) = r * c) (hx : okcell x) : Ev (fun k => grid_Board_Put.f k r c l a b x.f0 x.f1.f0 x.f1.f1 x.f1.f2) (0, r, c, l.set (a * c + b).toNat x) := by
  obtain ⟨p1, p2, p3⟩ := place h hr hc hn
  unfold grid_Board_Put.f
  simp only [there_f, decide_eq_true h, Option.bind_some, if_true]
  refine ev_bind (CRight_ev _ _ _ _) ?_
  simp only [decide_eq_true (show okc x.f0 ∧ okp x.f1.f0 x.f1.f1 x.f1.f2 from hx), if_true, p1, if_pos (show 0 ≤ a * c + b by omega), if_pos (show a * c + b < (l.length : Int) by omega)]
  exact ev_some _
theorem Row_f (r c : Int) (l : List S53) (a : Int) (h0 : 0 ≤ a) (h1 : a < r) (h2 : r ≤ 10000) (h3 : 1 ≤ c) (h4 : c ≤ 10000) (hn : (l.length : Int) = r * c) (hl : l.length ≤ 1000000) : grid_Board_Row.f r c l a = some ((l.take (a * c + c).toNat).drop (a * c).toNat, r, c, l) := by
  have a2 : (a + 1) * c = a * c + c := by rw [Int.add_mul, Int.one_mul]
  have a3 : (a + 1) * c ≤ r * c := Int.mul_le_mul_of_nonneg_right (by omega) (by omega)
  unfold grid_Board_Row.f
  rw [if_pos (show a ≥ 0 ∧ a < r ∧ 0 < c from ⟨h0, h1, by omega⟩), if_pos (by omega), a2]
theorem Row_none (r c : Int) (l : List S53) (a : Int) (h : ¬ (0 ≤ a ∧ a < r)) : grid_Board_Row.f r c l a = some ([], r, c, l) := by
  unfold grid_Board_Row.f
  rw [if_neg (fun hh => h ⟨hh.1, hh.2.1⟩)]

/-! #### awake -/
theorem okcell_of {x : S53} (h : okcell x) : okc x.f0 ∧ okp x.f1.f0 x.f1.f1 x.f1.f2 := h
theorem Right_t {c f b m : Int} (h : okc c ∧ okp f b m) : Ev (fun k => cell_Right.f k c f b m) true := ev_eq (CRight_ev c f b m) (decide_eq_true h)
theorem Fill_awake (b c : S53) : Ev (fun k => grid_Board_Fill.f k 3 1 [b, b, c] 1 0 1 32 0 0 0) (3, 1, [b, (⟨32, ⟨0, 0, 0⟩⟩ : S53), c]) := by
  unfold grid_Board_Fill.f
  refine ev_bind1 (there_f 3 1 [b, b, c] 1 0) ?_
  simp only [decide_eq_true (show (0 : Int) ≤ 1 ∧ (1 : Int) < 3 ∧ (0 : Int) ≤ 0 ∧ (0 : Int) < 1 by omega), if_true]
  refine ev_bind (Right_t (by decide)) ?_
  apply ev_succ
  simp only [grid_Board_Fill.j0, Bool.not_true, Bool.false_eq_true, if_false]
  apply ev_succ
  have h1 : mx 0 0 = 0 := by decide
  have h2 : mn 1 1 = 1 := by decide
  have h3 : wrap64 (wrap64 (1 * 1) + 0) = 1 := by unfold wrap64; omega
  have h4 : wrap64 (0 + 1) = 1 := by unfold wrap64; omega
  simp only [grid_Board_Fill.l0, h1, h2, h3, h4, List.length_cons, List.length_nil, if_pos (show (0 : Int) < 1 by omega), if_pos (show (0 : Int) ≤ 1 by omega), if_pos (show (1 : Int) < ((0 + 1 + 1 + 1 : Nat) : Int) by omega)]
  apply ev_succ
  simp only [grid_Board_Fill.l0, h2, if_neg (show ¬ (1 : Int) < 1 by omega)]
  exact ev_some _
theorem Up_awake (a b c : S53) : Ev (fun k => grid_Board_Up.f k 3 1 [a, b, c] 0 1 1 32 0 0 0) (3, 1, [b, (⟨32, ⟨0, 0, 0⟩⟩ : S53), c]) := by
  unfold grid_Board_Up.f grid_Board_region.f
  simp only [if_pos (show (0 : Int) ≥ 0 by omega), if_pos (show (1 : Int) < 3 by omega), if_pos (show (0 : Int) ≤ 1 by omega), if_pos (show (1 : Int) > 0 by omega)]
  refine ev_bind (ev_bind (Right_t (c := 32) (f := 0) (b := 0) (m := 0) (by decide)) (ev_some _)) ?_
  have h1 : mn 1 (1 - 0 + 1) = 1 := by decide
  have h2 : ((1 : Int) - 0 + 1).toNat = 2 := by decide
  have h3 : grid_Board_Up_copy [a, b, c] ((0 : Int) * 1).toNat ((0 + 1 : Int) * 1).toNat (1 : Int).toNat = [b, b, c] := rfl
  simp only [if_true, List.length_cons, List.length_nil, h1, h2, grid_Board_Up.loop, if_pos (show (0 : Int) ≤ 0 ∧ (0 : Int) ≤ 1 ∧ (1 : Int) < 3 ∧ (1 : Int) ≤ 1 ∧ (3 : Int) ≤ 10000 ∧ (1 : Int) ≤ 1 ∧ (1 : Int) ≤ 10000 ∧ ((0 + 1 + 1 + 1 : Nat) : Int) = 3 * 1 by omega), if_pos (show (0 : Int) + 1 ≤ 1 by omega), if_neg (show ¬ (0 : Int) + 1 + 1 ≤ 1 by omega), h3]
  refine ev_bind (ev_bind (Fill_awake b c) ?_) (ev_some _)
  simp only [List.length_cons, List.length_nil, true_and, if_true, and_self]
  exact ev_some _
theorem awake10_ev : Ev (fun k => batonlaw10_awake.f k) true := by
  have hk : ∀ c : Int, (32 ≤ c ∧ c ≤ 126) → okcell (⟨c, ⟨0, 0, 0⟩⟩ : S53) := fun c h => ⟨⟨.inl h, by show sign c; unfold sign; omega⟩, by show okp 0 0 0; decide⟩
  have hp := fun (l : List S53) (i c : Int) (hl : l.length = 3) (hi : 0 ≤ i ∧ i < 3) (h : 32 ≤ c ∧ c ≤ 126) => Put_ev 3 1 l i 0 (⟨c, ⟨0, 0, 0⟩⟩ : S53) (by omega) (by omega) (by omega) (by omega) (hk c h)
  unfold batonlaw10_awake.f
  refine ev_bind (New_ev 3 1 (by decide)) ?_
  simp only [if_true]
  apply ev_succ
  simp only [batonlaw10_awake.j0, Bool.false_eq_true, if_false]
  refine ev_bind (hp _ 0 97 (by simp) (by omega) (by omega)) ?_
  refine ev_bind (hp _ 1 98 (by simp) (by omega) (by omega)) ?_
  refine ev_bind (hp _ 2 99 (by simp) (by omega) (by omega)) ?_
  simp only [batonref10_Blank.f, Option.bind_some]
  refine ev_bind (Up_awake ⟨97, ⟨0, 0, 0⟩⟩ ⟨98, ⟨0, 0, 0⟩⟩ ⟨99, ⟨0, 0, 0⟩⟩) ?_
  refine ev_bind1 (Grid_f 3 1 _ (by simp)) ?_
  exact ev_some _

theorem GSame_l0 (a b : List S53) (hab : a.length = b.length) (hl : a.length ≤ 9000000000000000000) : ∀ (d i : Nat), a.length - i = d → i ≤ a.length → Ev (fun k => api_Cell_79.l0 k a b (a.length : Int) (i : Int)) (decide (a.drop i = b.drop i)) := by
  intro d
  induction d with
  | zero =>
    intro i hd hi
    obtain rfl : i = a.length := by omega
    apply ev_succ
    simp only [api_Cell_79.l0, if_neg (show ¬ ((a.length : Int) < (a.length : Int)) by omega)]
    refine ev_eq (ev_some _) (decide_eq_true ?_).symm
    rw [List.drop_of_length_le (Nat.le_refl _), List.drop_of_length_le (by omega)]
  | succ d ih =>
    intro i hd hi
    have hlt : i < a.length := by omega
    have hltb : i < b.length := by omega
    have hw : wrap64 ((i : Int) + 1) = ((i + 1 : Nat) : Int) := by rw [w64 (by omega) (by omega)]; omega
    apply ev_succ
    simp only [api_Cell_79.l0, if_pos (show (i : Int) < (a.length : Int) by omega), if_pos (show (i : Int) < (b.length : Int) by omega), if_pos (show (0 : Int) ≤ (i : Int) by omega), rd53 a i hlt, rd53 b i hltb, hw]
    by_cases he : a[i] = b[i]
    · rw [he]
      simp only [neqc_self, Bool.false_eq_true, if_false]
      refine ev_eq (ih (i + 1) (by omega) (by omega)) (decide_eq_decide.2 ?_)
      have h1 := List.drop_eq_getElem_cons hlt
      have h2 := List.drop_eq_getElem_cons hltb
      rw [h1, h2, he]
      exact ⟨fun h => by rw [h], fun h => (List.cons.inj h).2⟩
    · simp only [if_pos ((neqc a[i] b[i]).2 he)]
      refine ev_eq (ev_some _) (decide_eq_false (fun h => he ?_)).symm
      rw [List.drop_eq_getElem_cons hlt, List.drop_eq_getElem_cons hltb] at h
      exact (List.cons.inj h).1
theorem GSame_ev (a b : List S53) (hl : a.length ≤ 9000000000000000000) : Ev (fun k => api_Cell_79.f k a b) (decide (a = b)) := by
  unfold api_Cell_79.f
  by_cases h : a.length = b.length
  · simp only [if_pos (show (a.length : Int) = (b.length : Int) by omega)]
    exact GSame_l0 a b h hl a.length 0 (by omega) (by omega)
  · simp only [if_neg (show ¬ (a.length : Int) = (b.length : Int) by omega)]
    exact ev_eq (ev_some _) (decide_eq_false (fun e => h (by rw [e]))).symm
theorem GGSame_ev (r c : Int) (l : List S53) (r' c' : Int) (l' : List S53) (hl : l.length ≤ 1000000) : Ev (fun k => grid_Same.f k r c l r' c' l') (decide (r = r' ∧ c = c' ∧ l = l')) := by
  unfold grid_Same.f
  by_cases h1 : r = r'
  · by_cases h2 : c = c'
    · simp only [if_pos h1, if_pos h2]
      refine ev_bind (GSame_ev l l' (by omega)) (ev_eq (ev_some _) (decide_eq_decide.2 ⟨fun h => ⟨h1, h2, h⟩, fun h => h.2.2⟩))
    · simp only [if_pos h1, if_neg h2]
      exact ev_eq (ev_some _) (decide_eq_false (fun h => h2 h.2.1)).symm
  · simp only [if_neg h1]
    exact ev_eq (ev_some _) (decide_eq_false (fun h => h1 h.1)).symm
theorem There_f (r c : Int) (l : List S53) (a b : Int) : batonref10_There.f r c l a b = some (decide (0 ≤ a ∧ a < r ∧ 0 ≤ b ∧ b < c)) := by
  unfold batonref10_There.f
  repeat' split
  all_goals first
    | exact congrArg some (decide_eq_false (by omega)).symm
    | exact congrArg some (decide_eq_decide.2 ⟨fun h => by omega, fun h => by omega⟩)
def cellAt (r c : Int) (l : List S53) (a b : Int) : S53 := if 0 ≤ a ∧ a < r ∧ 0 ≤ b ∧ b < c then rd_T53 l (a * c + b) else ⟨0, ⟨0, 0, 0⟩⟩
theorem At_f (r c : Int) (l : List S53) (a b : Int) (hr : r ≤ 10000) (hc : c ≤ 10000) (hn : (l.length : Int) = r * c) : grid_Board_At.f r c l a b = some ((cellAt r c l a b).f0, (cellAt r c l a b).f1.f0, (cellAt r c l a b).f1.f1, (cellAt r c l a b).f1.f2, r, c, l) := by
  unfold grid_Board_At.f cellAt
  simp only [there_f, Option.bind_some]
  by_cases h : 0 ≤ a ∧ a < r ∧ 0 ≤ b ∧ b < c
  · obtain ⟨p1, p2, p3⟩ := place h hr hc hn
    simp only [decide_eq_true h, if_true, p1, if_pos (show 0 ≤ a * c + b by omega), if_pos (show a * c + b < (l.length : Int) by omega), if_pos h]
  · simp only [decide_eq_false h, Bool.false_eq_true, if_false, if_neg h]
theorem RAt_f (r c : Int) (l : List S53) (a b : Int) (hr : r ≤ 10000) (hc : c ≤ 10000) (hn : (l.length : Int) = r * c) : batonref10_At.f r c l a b 0 0 0 0 = some ((cellAt r c l a b).f0, (cellAt r c l a b).f1.f0, (cellAt r c l a b).f1.f1, (cellAt r c l a b).f1.f2) := by
  unfold batonref10_At.f cellAt
  simp only [There_f, Option.bind_some]
  by_cases h : 0 ≤ a ∧ a < r ∧ 0 ≤ b ∧ b < c
  · obtain ⟨p1, p2, p3⟩ := place h hr hc hn
    simp only [decide_eq_true h, if_true, p1, if_pos (show 0 ≤ a * c + b by omega), if_pos (show a * c + b < (l.length : Int) by omega), if_pos h]
  · simp only [decide_eq_false h, Bool.false_eq_true, if_false, if_neg h]

end Go.Proofs.Ytkckojgjkmcokaa.LF10
