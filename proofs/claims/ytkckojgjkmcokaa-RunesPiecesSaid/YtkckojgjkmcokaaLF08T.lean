/- Plain lemmas on the functions of this family (RunesTexts, RunesPieces): what each loop comes to. No condition. -/
import Derived.Test.YtkckojgjkmcokaaBase
import Derived.Test.YtkckojgjkmcokaaPF08Tx
namespace Go.Proofs.Ytkckojgjkmcokaa.LF08T
open Go.RowKit Go.Proofs.Ytkckojgjkmcokaa.Base Go.Proofs.YtkckojgjkmcokaaW.PrintWords Go.Proofs.YtkckojgjkmcokaaW.PrintMore Go.Proofs.Ytkckojgjkmcokaa.PF08T
set_option linter.unusedVariables false
set_option linter.unusedSimpArgs false

/-! ### signs: the document's answer -/
def lo3 (a : Int) : Int := if a = 224 then 160 else 128
def hi3 (a : Int) : Int := if a = 237 then 159 else 191
def lo4 (a : Int) : Int := if a = 240 then 144 else 128
def hi4 (a : Int) : Int := if a = 244 then 143 else 191
def sign (c : Int) : Prop := 0 ≤ c ∧ c ≤ 1114111 ∧ (c < 55296 ∨ c > 57343)
instance (c : Int) : Decidable (sign c) := by unfold sign; infer_instance
def enc (c : Int) : List Int :=
  if c < 128 then [c] else if c < 2048 then [192 + c / 64, 128 + c % 64] else if c < 65536 then [224 + c / 4096, 128 + c / 64 % 64, 128 + c % 64]
  else [240 + c / 262144, 128 + c / 4096 % 64, 128 + c / 64 % 64, 128 + c % 64]
/-- Are bytes a sign? -/
def wh : List Int → Prop
  | [a] => a < 128
  | [a, b] => 194 ≤ a ∧ a ≤ 223 ∧ 128 ≤ b ∧ b ≤ 191
  | [a, b, c] => 224 ≤ a ∧ a ≤ 239 ∧ lo3 a ≤ b ∧ b ≤ hi3 a ∧ 128 ≤ c ∧ c ≤ 191
  | [a, b, c, d] => 240 ≤ a ∧ a ≤ 244 ∧ lo4 a ≤ b ∧ b ≤ hi4 a ∧ 128 ≤ c ∧ c ≤ 191 ∧ 128 ≤ d ∧ d ≤ 191
  | _ => False
instance : (x : List Int) → Decidable (wh x)
  | [] => isFalse id
  | [a] => by unfold wh; infer_instance
  | [a, b] => by unfold wh; infer_instance
  | [a, b, c] => by unfold wh; infer_instance
  | [a, b, c, d] => by unfold wh; infer_instance
  | _ :: _ :: _ :: _ :: _ :: _ => isFalse id
def cp : List Int → Int
  | [a] => a
  | [a, b] => (a - 192) * 64 + b - 128
  | [a, b, c] => ((a - 224) * 64 + b - 128) * 64 + c - 128
  | [a, b, c, d] => (((a - 240) * 64 + b - 128) * 64 + c - 128) * 64 + d - 128
  | _ => 0
/-- May bytes go on to a sign? -/
def beg : List Int → Prop
  | [a] => 194 ≤ a ∧ a ≤ 244
  | [a, b] => (224 ≤ a ∧ a ≤ 239 ∧ lo3 a ≤ b ∧ b ≤ hi3 a) ∨ (240 ≤ a ∧ a ≤ 244 ∧ lo4 a ≤ b ∧ b ≤ hi4 a)
  | [a, b, c] => 240 ≤ a ∧ a ≤ 244 ∧ lo4 a ≤ b ∧ b ≤ hi4 a ∧ 128 ≤ c ∧ c ≤ 191
  | _ => False
instance : (x : List Int) → Decidable (beg x)
  | [] => isFalse id
  | [a] => by unfold beg; infer_instance
  | [a, b] => by unfold beg; infer_instance
  | [a, b, c] => by unfold beg; infer_instance
  | _ :: _ :: _ :: _ :: _ => isFalse id
theorem lo3_ge (a : Int) : 128 ≤ lo3 a ∧ lo3 a ≤ 160 := by unfold lo3; split <;> omega
theorem hi3_le (a : Int) : hi3 a ≤ 191 ∧ 159 ≤ hi3 a := by unfold hi3; split <;> omega
theorem lo4_ge (a : Int) : 128 ≤ lo4 a ∧ lo4 a ≤ 144 := by unfold lo4; split <;> omega
theorem hi4_le (a : Int) : hi4 a ≤ 191 ∧ 143 ≤ hi4 a := by unfold hi4; split <;> omega
theorem enc1 (a : Int) (ha : 0 ≤ a ∧ a ≤ 255) : (sign a ∧ enc a = [a]) ↔ wh [a] := by
  show (sign a ∧ enc a = [a]) ↔ a < 128
  unfold sign enc
  constructor
  · rintro ⟨_, h⟩
    split at h
    · assumption
    · split at h
      · simp at h
      · split at h <;> simp at h
  · intro h
    rw [if_pos h]
    exact ⟨by omega, rfl⟩
theorem enc2 (a b : Int) (ha : 0 ≤ a ∧ a ≤ 255) (hb : 0 ≤ b ∧ b ≤ 255) : (sign (cp [a, b]) ∧ enc (cp [a, b]) = [a, b]) ↔ wh [a, b] := by
  show (sign ((a - 192) * 64 + b - 128) ∧ enc ((a - 192) * 64 + b - 128) = [a, b]) ↔ (194 ≤ a ∧ a ≤ 223 ∧ 128 ≤ b ∧ b ≤ 191)
  unfold sign enc
  constructor
  · rintro ⟨_, h⟩
    split at h
    · simp at h
    · split at h
      · simp only [List.cons.injEq, and_true] at h
        omega
      · split at h <;> simp at h
  · intro h
    rw [if_neg (by omega), if_pos (by omega)]
    refine ⟨by omega, ?_⟩
    simp only [List.cons.injEq, and_true]
    omega
theorem enc3 (a b c : Int) (ha : 0 ≤ a ∧ a ≤ 255) (hb : 0 ≤ b ∧ b ≤ 255) (hc : 0 ≤ c ∧ c ≤ 255) : (sign (cp [a, b, c]) ∧ enc (cp [a, b, c]) = [a, b, c]) ↔ wh [a, b, c] := by
  show (sign (((a - 224) * 64 + b - 128) * 64 + c - 128) ∧ enc (((a - 224) * 64 + b - 128) * 64 + c - 128) = [a, b, c]) ↔ (224 ≤ a ∧ a ≤ 239 ∧ (if a = 224 then 160 else 128) ≤ b ∧ b ≤ (if a = 237 then 159 else 191) ∧ 128 ≤ c ∧ c ≤ 191)
  unfold sign enc
  constructor
  · rintro ⟨_, h⟩
    split at h
    · simp at h
    · split at h
      · simp at h
      · split at h
        · simp only [List.cons.injEq, and_true] at h
          split <;> split <;> omega
        · simp at h
  · intro h
    rw [if_neg (by split at h <;> split at h <;> omega), if_neg (by split at h <;> split at h <;> omega), if_pos (by omega)]
    refine ⟨by split at h <;> split at h <;> omega, ?_⟩
    simp only [List.cons.injEq, and_true]
    split at h <;> split at h <;> omega
theorem enc4 (a b c d : Int) (ha : 0 ≤ a ∧ a ≤ 255) (hb : 0 ≤ b ∧ b ≤ 255) (hc : 0 ≤ c ∧ c ≤ 255) (hd : 0 ≤ d ∧ d ≤ 255) : (sign (cp [a, b, c, d]) ∧ enc (cp [a, b, c, d]) = [a, b, c, d]) ↔ wh [a, b, c, d] := by
  show (sign ((((a - 240) * 64 + b - 128) * 64 + c - 128) * 64 + d - 128) ∧ enc ((((a - 240) * 64 + b - 128) * 64 + c - 128) * 64 + d - 128) = [a, b, c, d]) ↔ (240 ≤ a ∧ a ≤ 244 ∧ (if a = 240 then 144 else 128) ≤ b ∧ b ≤ (if a = 244 then 143 else 191) ∧ 128 ≤ c ∧ c ≤ 191 ∧ 128 ≤ d ∧ d ≤ 191)
  unfold sign enc
  constructor
  · rintro ⟨_, h⟩
    split at h
    · simp at h
    · split at h
      · simp at h
      · split at h
        · simp at h
        · simp only [List.cons.injEq, and_true] at h
          split <;> split <;> omega
  · intro h
    rw [if_neg (by split at h <;> split at h <;> omega), if_neg (by split at h <;> split at h <;> omega), if_neg (by split at h <;> split at h <;> omega)]
    refine ⟨by split at h <;> split at h <;> omega, ?_⟩
    simp only [List.cons.injEq, and_true]
    split at h <;> split at h <;> omega
theorem Sign_f (c : Int) : batonref08_Sign.f c = some (decide (sign c)) := by
  unfold batonref08_Sign.f sign
  by_cases h1 : c ≥ 0
  · rw [if_pos h1]
    by_cases h2 : c ≤ 1114111
    · rw [if_pos h2]
      by_cases h3 : c < 55296
      · rw [if_pos h3]
        simp
        omega
      · rw [if_neg h3]
        exact congrArg some (decide_eq_decide.2 ⟨fun h => by omega, fun h => by omega⟩)
    · rw [if_neg h2]
      simp
      omega
  · rw [if_neg h1]
    simp
    omega
theorem enc_len (c : Int) : (enc c).length ≤ 4 := by
  unfold enc
  split
  · simp
  · split
    · simp
    · split <;> simp
def enc' (c : Int) : List Int := if sign c then enc c else enc 65533
theorem cp_nonneg : ∀ x, Bytes x → wh x → 0 ≤ cp x
  | [], _, h => h.elim
  | [a], hb, h => (hb a (by simp)).1
  | [a, b], hb, h => by
    have h2 : 194 ≤ a ∧ a ≤ 223 ∧ 128 ≤ b ∧ b ≤ 191 := h
    show 0 ≤ (a - 192) * 64 + b - 128
    omega
  | [a, b, c], hb, h => by
    have h2 : 224 ≤ a ∧ a ≤ 239 ∧ lo3 a ≤ b ∧ b ≤ hi3 a ∧ 128 ≤ c ∧ c ≤ 191 := h
    have := lo3_ge a
    show 0 ≤ ((a - 224) * 64 + b - 128) * 64 + c - 128
    omega
  | [a, b, c, d], hb, h => by
    have h2 : 240 ≤ a ∧ a ≤ 244 ∧ lo4 a ≤ b ∧ b ≤ hi4 a ∧ 128 ≤ c ∧ c ≤ 191 ∧ 128 ≤ d ∧ d ≤ 191 := h
    have := lo4_ge a
    show 0 ≤ (((a - 240) * 64 + b - 128) * 64 + c - 128) * 64 + d - 128
    omega
  | _ :: _ :: _ :: _ :: _ :: _, _, h => h.elim
theorem wh2_iff (a b : Int) : wh [a, b] ↔ (194 ≤ a ∧ a ≤ 223 ∧ 128 ≤ b ∧ b ≤ 191) := Iff.rfl
theorem wh3_iff (a b c : Int) : wh [a, b, c] ↔ (224 ≤ a ∧ a ≤ 239 ∧ lo3 a ≤ b ∧ b ≤ hi3 a ∧ 128 ≤ c ∧ c ≤ 191) := Iff.rfl
theorem wh4_iff (a b c d : Int) : wh [a, b, c, d] ↔ (240 ≤ a ∧ a ≤ 244 ∧ lo4 a ≤ b ∧ b ≤ hi4 a ∧ 128 ≤ c ∧ c ≤ 191 ∧ 128 ≤ d ∧ d ≤ 191) := Iff.rfl
/-! #### Put -/
def ref1 (b : Int) : List Int × List Int := if wh [b] then ([], [b]) else if beg [b] then ([b], []) else ([], [65533])
def refPut (W : List Int) (b : Int) : List Int × List Int :=
  if wh (W ++ [b]) then ([], [cp (W ++ [b])]) else if beg (W ++ [b]) then (W ++ [b], []) else if W = [] then ([], [65533]) else ((ref1 b).1, 65533 :: (ref1 b).2)
theorem refPut_nil (b : Int) : refPut [] b = ref1 b := by
  unfold refPut ref1
  simp only [List.nil_append, if_true]
  rfl
theorem ref1_len (b : Int) : (ref1 b).2.length ≤ 1 := by
  unfold ref1
  split
  · simp
  · split <;> simp

theorem Bytes_j0 (c : Int) (h0 : 0 ≤ c) (h1 : c ≤ 1114111) : Ev (fun k => batonref08_Bytes.j0 k c) (enc c) := by
  have t1 : Int.tdiv c 64 = c / 64 := Int.tdiv_eq_ediv_of_nonneg h0
  have t2 : Int.tdiv c 4096 = c / 4096 := Int.tdiv_eq_ediv_of_nonneg h0
  have t3 : Int.tdiv c 262144 = c / 262144 := Int.tdiv_eq_ediv_of_nonneg h0
  have m1 : Int.tmod c 64 = c % 64 := Int.tmod_eq_emod_of_nonneg h0
  have m2 : Int.tmod (c / 64) 64 = c / 64 % 64 := Int.tmod_eq_emod_of_nonneg (by omega)
  have m3 : Int.tmod (c / 4096) 64 = c / 4096 % 64 := Int.tmod_eq_emod_of_nonneg (by omega)
  apply ev_succ
  unfold enc
  by_cases c1 : c < 128
  · simp only [batonref08_Bytes.j0, if_pos c1, show c % 256 = c from by omega]
    exact ev_some _
  · by_cases c2 : c < 2048
    · simp only [batonref08_Bytes.j0, if_neg c1, if_pos c2, t1, m1]
      rw [w64 (x := c / 64) (by omega) (by omega), w64 (x := 192 + c / 64) (by omega) (by omega), w64 (x := 128 + c % 64) (by omega) (by omega), show (192 + c / 64) % 256 = 192 + c / 64 by omega, show (128 + c % 64) % 256 = 128 + c % 64 by omega]
      exact ev_some _
    · by_cases c3 : c < 65536
      · simp only [batonref08_Bytes.j0, if_neg c1, if_neg c2, if_pos c3, t1, t2, m1]
        rw [w64 (x := c / 64) (by omega) (by omega), m2, w64 (x := c / 4096) (by omega) (by omega), w64 (x := 224 + c / 4096) (by omega) (by omega), w64 (x := 128 + c / 64 % 64) (by omega) (by omega), w64 (x := 128 + c % 64) (by omega) (by omega), show (224 + c / 4096) % 256 = 224 + c / 4096 by omega, show (128 + c / 64 % 64) % 256 = 128 + c / 64 % 64 by omega, show (128 + c % 64) % 256 = 128 + c % 64 by omega]
        exact ev_some _
      · simp only [batonref08_Bytes.j0, if_neg c1, if_neg c2, if_neg c3, t1, t2, t3, m1]
        rw [w64 (x := c / 64) (by omega) (by omega), m2, w64 (x := c / 4096) (by omega) (by omega), m3, w64 (x := c / 262144) (by omega) (by omega), w64 (x := 240 + c / 262144) (by omega) (by omega), w64 (x := 128 + c / 4096 % 64) (by omega) (by omega), w64 (x := 128 + c / 64 % 64) (by omega) (by omega), w64 (x := 128 + c % 64) (by omega) (by omega), show (240 + c / 262144) % 256 = 240 + c / 262144 by omega, show (128 + c / 4096 % 64) % 256 = 128 + c / 4096 % 64 by omega, show (128 + c / 64 % 64) % 256 = 128 + c / 64 % 64 by omega, show (128 + c % 64) % 256 = 128 + c % 64 by omega]
        exact ev_some _
theorem Bytes_ev (c : Int) : Ev (fun k => batonref08_Bytes.f k c) (enc' c) := by
  unfold batonref08_Bytes.f enc'
  simp only [Sign_f, Option.bind_some, decide_eq_true_eq]
  by_cases h : sign c
  · simp only [if_pos h]
    exact Bytes_j0 c h.1 h.2.1
  · simp only [if_neg h]
    exact Bytes_j0 65533 (by omega) (by omega)

theorem same8_l0 (a b : List Int) (h : a.length = b.length) (hl : a.length ≤ 1000000) : ∀ (d i : Nat), a.length - i = d → i ≤ a.length → Ev (fun k => batonref08_same.l0 k a b (i : Int)) (decide (a.drop i = b.drop i)) := by
  intro d
  induction d with
  | zero =>
    intro i hd hi
    obtain rfl : i = a.length := by omega
    apply ev_succ
    simp only [batonref08_same.l0, if_neg (show ¬ ((a.length : Int) < (a.length : Int)) by omega)]
    exact ev_eq (ev_some _) (by simp [h])
  | succ d ih =>
    intro i hd hi
    have hlt : i < a.length := by omega
    have hltb : i < b.length := by omega
    have hw : wrap64 ((i : Int) + 1) = ((i + 1 : Nat) : Int) := by rw [w64 (by omega) (by omega)]; omega
    apply ev_succ
    simp only [batonref08_same.l0, if_pos (show (i : Int) < (a.length : Int) by omega), if_pos (show (0 : Int) ≤ (i : Int) by omega), if_pos (show (i : Int) < (b.length : Int) by omega), rd_lt hlt, rd_lt hltb, hw]
    have key : (a.drop i = b.drop i) ↔ (a[i] = b[i] ∧ a.drop (i + 1) = b.drop (i + 1)) := by
      rw [List.drop_eq_getElem_cons hlt, List.drop_eq_getElem_cons hltb]
      exact List.cons_eq_cons
    by_cases e : a[i] = b[i]
    · simp only [if_pos e]
      refine ev_eq (ih (i + 1) (by omega) (by omega)) ?_
      simp only [key, e, true_and]
    · simp only [if_neg e]
      refine ev_eq (ev_some _) ?_
      simp only [key, e, false_and, decide_false]
theorem same8_ev (a b : List Int) (hl : a.length ≤ 1000000) : Ev (fun k => batonref08_same.f k a b) (decide (a = b)) := by
  unfold batonref08_same.f
  by_cases h : a.length = b.length
  · simp only [if_pos (show (a.length : Int) = (b.length : Int) by omega)]
    exact ev_eq (same8_l0 a b h hl a.length 0 (by omega) (by omega)) (by simp)
  · simp only [if_neg (show ¬ ((a.length : Int) = (b.length : Int)) by omega)]
    exact ev_eq (ev_some _) (by simp; intro e; exact h (by rw [e]))
/-! #### Whole -/
theorem Whole_end (x : List Int) (c i : Int) (hi : ¬ i < (x.length : Int)) : Ev (fun k => batonref08_Whole.l0 k x c i) (if sign c ∧ enc c = x then c else -1) := by
  apply ev_succ
  simp only [batonref08_Whole.l0, if_neg hi, Sign_f, Option.bind_some, decide_eq_true_eq]
  by_cases h : sign c
  · have he : enc' c = enc c := by unfold enc'; rw [if_pos h]
    simp only [if_pos h]
    refine ev_bind (Bytes_ev c) (ev_bind (same8_ev _ _ (by rw [he]; have := enc_len c; omega)) ?_)
    rw [he]
    by_cases h2 : enc c = x
    · simp only [decide_eq_true h2, if_true, if_pos (And.intro h h2)]
      exact ev_some _
    · simp only [decide_eq_false h2, Bool.false_eq_true, if_false, if_neg (show ¬ (sign c ∧ enc c = x) from fun h => h2 h.2)]
      exact ev_some _
  · simp only [if_neg h, if_neg (show ¬ (sign c ∧ enc c = x) from fun h2 => h h2.1)]
    exact ev_some _
theorem Whole_step (x : List Int) (c i : Int) (r : Int) (h0 : 0 ≤ i) (hi : i < (x.length : Int)) (hx : x.length ≤ 4) (hc0 : -1000000000 ≤ c) (hc1 : c ≤ 1000000000) (hb0 : 0 ≤ rd x i) (hb1 : rd x i ≤ 255)
    (h : Ev (fun k => batonref08_Whole.l0 k x (c * 64 + rd x i - 128) (i + 1)) r) : Ev (fun k => batonref08_Whole.l0 k x c i) r := by
  apply ev_succ
  simp only [batonref08_Whole.l0, if_pos hi, if_pos h0]
  generalize rd x i = b at *
  rw [w64 (x := c * 64) (by omega) (by omega), w64 (x := b) (by omega) (by omega), w64 (x := c * 64 + b) (by omega) (by omega), w64 (x := c * 64 + b - 128) (by omega) (by omega), w64 (x := i + 1) (by omega) (by omega)]
  exact h
theorem Whole_start (x : List Int) (r : Int) (hx0 : 1 ≤ x.length) (hx : x.length ≤ 4) (hb0 : 0 ≤ rd x 0) (hb1 : rd x 0 ≤ 255) (h : Ev (fun k => batonref08_Whole.l0 k x (if x.length = 1 then rd x 0 else rd x 0 - rd [0, 0, 192, 224, 240] (x.length : Int)) 1) r) : Ev (fun k => batonref08_Whole.f k x) r := by
  unfold batonref08_Whole.f
  simp only [if_neg (show ¬ (x.length : Int) = 0 by omega), decide_eq_false (show ¬ (x.length : Int) > 4 by omega)]
  apply ev_succ
  simp only [batonref08_Whole.j0, Bool.false_eq_true, if_false, if_pos (show 0 < (x.length : Int) by omega), Option.bind_some]
  by_cases h1 : x.length = 1
  · simp only [if_neg (show ¬ (x.length : Int) > 1 by omega)]
    apply ev_succ
    simp only [batonref08_Whole.j1]
    rw [if_pos h1] at h
    rw [w64 (x := rd x 0) (by omega) (by omega)]
    exact h
  · simp only [if_pos (show (x.length : Int) > 1 by omega), if_pos (show 0 ≤ (x.length : Int) by omega), if_pos (show (x.length : Int) < (([0, 0, 192, 224, 240] : List Int).length : Int) by simp; omega)]
    apply ev_succ
    simp only [batonref08_Whole.j1]
    rw [if_neg h1] at h
    have hr : 0 ≤ rd [0, 0, 192, 224, 240] (x.length : Int) ∧ rd [0, 0, 192, 224, 240] (x.length : Int) ≤ 255 := by
      have : x.length = 2 ∨ x.length = 3 ∨ x.length = 4 := by omega
      rcases this with e | e | e <;> rw [e] <;> decide
    generalize rd [0, 0, 192, 224, 240] (x.length : Int) = q at *
    rw [w64 (x := rd x 0) (by omega) (by omega), w64 (by omega) (by omega)]
    exact h
theorem ev_if {g : Nat → Option Int} {p q : Prop} [Decidable p] [Decidable q] {a : Int} (hpq : p ↔ q) (h : Ev g (if p then a else -1)) : Ev g (if q then a else -1) := by
  by_cases hp : p
  · rw [if_pos hp] at h
    rw [if_pos (hpq.1 hp)]
    exact h
  · rw [if_neg hp] at h
    rw [if_neg (fun hq => hp (hpq.2 hq))]
    exact h
theorem Whole1 (a : Int) (ha : 0 ≤ a ∧ a ≤ 255) : Ev (fun k => batonref08_Whole.f k [a]) (if wh [a] then cp [a] else -1) := by
  refine Whole_start [a] _ (by simp) (by simp) ha.1 ha.2 ?_
  exact ev_if (enc1 a ha) (Whole_end [a] a 1 (by simp))
theorem Whole2 (a b : Int) (ha : 0 ≤ a ∧ a ≤ 255) (hb : 0 ≤ b ∧ b ≤ 255) : Ev (fun k => batonref08_Whole.f k [a, b]) (if wh [a, b] then cp [a, b] else -1) := by
  refine Whole_start [a, b] _ (by simp) (by simp) ha.1 ha.2 ?_
  show Ev (fun k => batonref08_Whole.l0 k [a, b] (a - 192) 1) _
  refine Whole_step _ _ _ _ (by omega) (by simp) (by simp) (by omega) (by omega) hb.1 hb.2 ?_
  exact ev_if (enc2 a b ha hb) (Whole_end [a, b] (cp [a, b]) (1 + 1) (by simp))
theorem Whole3 (a b c : Int) (ha : 0 ≤ a ∧ a ≤ 255) (hb : 0 ≤ b ∧ b ≤ 255) (hc : 0 ≤ c ∧ c ≤ 255) : Ev (fun k => batonref08_Whole.f k [a, b, c]) (if wh [a, b, c] then cp [a, b, c] else -1) := by
  refine Whole_start [a, b, c] _ (by simp) (by simp) ha.1 ha.2 ?_
  show Ev (fun k => batonref08_Whole.l0 k [a, b, c] (a - 224) 1) _
  refine Whole_step _ _ _ _ (by omega) (by simp) (by simp) (by omega) (by omega) hb.1 hb.2 ?_
  show Ev (fun k => batonref08_Whole.l0 k [a, b, c] ((a - 224) * 64 + b - 128) 2) _
  refine Whole_step _ _ _ _ (by omega) (by simp) (by simp) (by omega) (by omega) hc.1 hc.2 ?_
  exact ev_if (enc3 a b c ha hb hc) (Whole_end [a, b, c] (cp [a, b, c]) (2 + 1) (by simp))
theorem Whole4 (a b c d : Int) (ha : 0 ≤ a ∧ a ≤ 255) (hb : 0 ≤ b ∧ b ≤ 255) (hc : 0 ≤ c ∧ c ≤ 255) (hd : 0 ≤ d ∧ d ≤ 255) : Ev (fun k => batonref08_Whole.f k [a, b, c, d]) (if wh [a, b, c, d] then cp [a, b, c, d] else -1) := by
  refine Whole_start [a, b, c, d] _ (by simp) (by simp) ha.1 ha.2 ?_
  show Ev (fun k => batonref08_Whole.l0 k [a, b, c, d] (a - 240) 1) _
  refine Whole_step _ _ _ _ (by omega) (by simp) (by simp) (by omega) (by omega) hb.1 hb.2 ?_
  show Ev (fun k => batonref08_Whole.l0 k [a, b, c, d] ((a - 240) * 64 + b - 128) 2) _
  refine Whole_step _ _ _ _ (by omega) (by simp) (by simp) (by omega) (by omega) hc.1 hc.2 ?_
  show Ev (fun k => batonref08_Whole.l0 k [a, b, c, d] (((a - 240) * 64 + b - 128) * 64 + c - 128) 3) _
  refine Whole_step _ _ _ _ (by omega) (by simp) (by simp) (by omega) (by omega) hd.1 hd.2 ?_
  exact ev_if (enc4 a b c d ha hb hc hd) (Whole_end [a, b, c, d] (cp [a, b, c, d]) (3 + 1) (by simp))
theorem Whole_ev : ∀ x, Bytes x → 1 ≤ x.length → x.length ≤ 4 → Ev (fun k => batonref08_Whole.f k x) (if wh x then cp x else -1)
  | [], _, h, _ => absurd h (by simp)
  | [a], hb, _, _ => Whole1 a (hb _ (by simp))
  | [a, b], hb, _, _ => Whole2 a b (hb _ (by simp)) (hb _ (by simp))
  | [a, b, c], hb, _, _ => Whole3 a b c (hb _ (by simp)) (hb _ (by simp)) (hb _ (by simp))
  | [a, b, c, d], hb, _, _ => Whole4 a b c d (hb _ (by simp)) (hb _ (by simp)) (hb _ (by simp)) (hb _ (by simp))
  | _ :: _ :: _ :: _ :: _ :: _, _, _, h => absurd h (by simp)
/-! #### Begins -/
def hitB (x : List Int) (n : Nat) (v : Int) : Bool := decide (wh (x ++ [v] ++ List.replicate (n - (x.length + 1)) 128))
theorem Beg_l2 (x : List Int) (n : Nat) (hn : n ≤ 4) (v : Int) (L : List Int) (a b : Int) (r : Bool) (hx : x.length + 1 ≤ n) (hb : Bytes (x ++ [v])) (h : ¬ wh (x ++ [v] ++ List.replicate (n - (x.length + 1)) 128) → Ev (fun k => batonref08_Begins.l1 k x (n : Int) L a (wrap64 (b + 1))) r) :
    ∀ (d j : Nat), n - (x.length + 1) - j = d → j ≤ n - (x.length + 1) → Ev (fun k => batonref08_Begins.l2 k x (n : Int) (x ++ [v] ++ List.replicate j 128) L a b) (hitB x n v || r) := by
  intro d
  induction d with
  | zero =>
    intro j hd hj
    obtain rfl : j = n - (x.length + 1) := by omega
    have hl : (x ++ [v] ++ List.replicate (n - (x.length + 1)) 128).length = n := by simp; omega
    have hb2 : Bytes (x ++ [v] ++ List.replicate (n - (x.length + 1)) 128) := fun y hy => by
      rcases List.mem_append.1 hy with hy | hy
      · exact hb y hy
      · have := List.eq_of_mem_replicate hy
        omega
    apply ev_succ
    simp only [batonref08_Begins.l2, if_neg (show ¬ ((x ++ [v] ++ List.replicate (n - (x.length + 1)) 128).length : Int) < (n : Int) by omega)]
    refine ev_bind (Whole_ev _ hb2 (by omega) (by omega)) ?_
    unfold hitB
    by_cases hw : wh (x ++ [v] ++ List.replicate (n - (x.length + 1)) 128)
    · simp only [if_pos hw, if_pos (show cp (x ++ [v] ++ List.replicate (n - (x.length + 1)) 128) ≥ 0 from cp_nonneg _ hb2 hw), decide_eq_true hw, Bool.true_or]
      exact ev_some _
    · simp only [if_neg hw, if_neg (show ¬ (-1 : Int) ≥ 0 by decide), decide_eq_false hw, Bool.false_or]
      exact h hw
  | succ d ih =>
    intro j hd hj
    have hl : (x ++ [v] ++ List.replicate j 128).length = x.length + 1 + j := by simp; omega
    apply ev_succ
    simp only [batonref08_Begins.l2, if_pos (show ((x ++ [v] ++ List.replicate j 128).length : Int) < (n : Int) by omega), if_pos (show (x ++ [v] ++ List.replicate j 128).length < 140737488355328 by omega)]
    have := ih (j + 1) (by omega) (by omega)
    rw [List.replicate_succ', ← List.append_assoc] at this
    exact this
theorem Beg_l1 (x : List Int) (n : Nat) (hn : n ≤ 4) (i : Nat) (hi : i < 6) (r : Bool) (hx : x.length + 1 ≤ n) (hb : Bytes x) (h : Ev (fun k => batonref08_Begins.l1 k x (n : Int) [128, 159, 160, 143, 144, 191] 6 ((i + 1 : Nat) : Int)) r) :
    Ev (fun k => batonref08_Begins.l1 k x (n : Int) [128, 159, 160, 143, 144, 191] 6 (i : Int)) (hitB x n (rd [128, 159, 160, 143, 144, 191] (i : Int)) || r) := by
  have hv : 0 ≤ rd [128, 159, 160, 143, 144, 191] (i : Int) ∧ rd [128, 159, 160, 143, 144, 191] (i : Int) ≤ 255 := by
    have : i = 0 ∨ i = 1 ∨ i = 2 ∨ i = 3 ∨ i = 4 ∨ i = 5 := by omega
    rcases this with e | e | e | e | e | e <;> rw [e] <;> decide
  apply ev_succ
  simp only [batonref08_Begins.l1, if_pos (show (i : Int) < 6 by omega), if_pos (show (0 : Int) ≤ (i : Int) by omega), if_pos (show (i : Int) < (([128, 159, 160, 143, 144, 191] : List Int).length : Int) by simp; omega), Option.bind_some, List.nil_append, if_pos (show ([] : List Int).length + x.length < 140737488355328 by simp; omega), if_pos (show x.length < 140737488355328 by omega)]
  generalize rd [128, 159, 160, 143, 144, 191] (i : Int) = v at hv ⊢
  rw [show v % 256 = v by omega]
  have := Beg_l2 x n hn v [128, 159, 160, 143, 144, 191] 6 (i : Int) r hx (hb.append (fun y hy => by simp at hy; omega)) (fun _ => by
    rw [w64 (by omega) (by omega)]
    exact h) (n - (x.length + 1)) 0 (by omega) (by omega)
  rw [List.replicate_zero, List.append_nil] at this
  exact this
def anyHit (x : List Int) (n : Nat) : Bool := hitB x n 128 || (hitB x n 159 || (hitB x n 160 || (hitB x n 143 || (hitB x n 144 || hitB x n 191))))
theorem Beg_l0 (x : List Int) (n : Nat) (hn : n ≤ 4) (hx : x.length + 1 ≤ n) (hb : Bytes x) (r : Bool) (h : Ev (fun k => batonref08_Begins.l0 k x ((n + 1 : Nat) : Int)) r) : Ev (fun k => batonref08_Begins.l0 k x (n : Int)) (anyHit x n || r) := by
  have h6 : Ev (fun k => batonref08_Begins.l1 k x (n : Int) [128, 159, 160, 143, 144, 191] 6 ((5 + 1 : Nat) : Int)) r := by
    apply ev_succ
    simp only [batonref08_Begins.l1, if_neg (show ¬ ((5 + 1 : Nat) : Int) < 6 by omega)]
    rw [w64 (by omega) (by omega)]
    exact h
  have h5 := Beg_l1 x n hn 5 (by omega) r hx hb h6
  have h4 := Beg_l1 x n hn 4 (by omega) _ hx hb h5
  have h3 := Beg_l1 x n hn 3 (by omega) _ hx hb h4
  have h2 := Beg_l1 x n hn 2 (by omega) _ hx hb h3
  have h1 := Beg_l1 x n hn 1 (by omega) _ hx hb h2
  have h0 := Beg_l1 x n hn 0 (by omega) _ hx hb h1
  apply ev_succ
  simp only [batonref08_Begins.l0, if_pos (show (n : Int) ≤ 4 by omega), Option.bind_some]
  refine ev_eq h0 ?_
  unfold anyHit
  simp only [Bool.or_assoc]
  rfl
theorem Beg_stop (x : List Int) : Ev (fun k => batonref08_Begins.l0 k x ((4 + 1 : Nat) : Int)) false := by
  apply ev_succ
  simp only [batonref08_Begins.l0, if_neg (show ¬ ((4 + 1 : Nat) : Int) ≤ 4 by omega)]
  exact ev_some _
theorem Beg_start (x : List Int) (hx0 : 1 ≤ x.length) (hx : x.length ≤ 3) (r : Bool) (h : Ev (fun k => batonref08_Begins.l0 k x ((x.length + 1 : Nat) : Int)) r) : Ev (fun k => batonref08_Begins.f k x) r := by
  unfold batonref08_Begins.f
  simp only [if_neg (show ¬ (x.length : Int) = 0 by omega), decide_eq_false (show ¬ (x.length : Int) > 3 by omega)]
  apply ev_succ
  simp only [batonref08_Begins.j0, Bool.false_eq_true, if_false]
  rw [w64 (by omega) (by omega)]
  exact h
theorem any_false {x : List Int} {n : Nat} (h : ∀ v, ¬ wh (x ++ [v] ++ List.replicate (n - (x.length + 1)) 128)) : anyHit x n = false := by
  unfold anyHit hitB
  simp only [decide_eq_false (h _), Bool.or_false]
theorem any_true {x : List Int} {n : Nat} (v : Int) (hv : v = 128 ∨ v = 160) (h : wh (x ++ [v] ++ List.replicate (n - (x.length + 1)) 128)) : anyHit x n = true := by
  unfold anyHit
  rcases hv with rfl | rfl
  · rw [show hitB x n 128 = true from decide_eq_true h]
    rfl
  · rw [show hitB x n 160 = true from decide_eq_true h]
    simp
theorem any_true' {x : List Int} {n : Nat} (h : wh (x ++ [144] ++ List.replicate (n - (x.length + 1)) 128)) : anyHit x n = true := by
  unfold anyHit
  rw [show hitB x n 144 = true from decide_eq_true h]
  simp
theorem Beg3 (a b c : Int) (hb : Bytes [a, b, c]) : Ev (fun k => batonref08_Begins.f k [a, b, c]) (decide (beg [a, b, c])) := by
  refine ev_eq (Beg_start _ (by simp) (by simp) _ (Beg_l0 [a, b, c] 4 (by omega) (by simp) hb false (Beg_stop _))) ?_
  rw [Bool.or_false]
  by_cases h : beg [a, b, c]
  · rw [decide_eq_true h]
    exact any_true 128 (.inl rfl) ⟨h.1, h.2.1, h.2.2.1, h.2.2.2.1, h.2.2.2.2.1, h.2.2.2.2.2, by decide, by decide⟩
  · rw [decide_eq_false h]
    exact any_false (x := [a, b, c]) (n := 4) (fun v hv => h ⟨hv.1, hv.2.1, hv.2.2.1, hv.2.2.2.1, hv.2.2.2.2.1, hv.2.2.2.2.2.1⟩)
theorem Beg2 (a b : Int) (hb : Bytes [a, b]) : Ev (fun k => batonref08_Begins.f k [a, b]) (decide (beg [a, b])) := by
  refine ev_eq (Beg_start _ (by simp) (by simp) _ (Beg_l0 [a, b] 3 (by omega) (by simp) hb _ (Beg_l0 [a, b] 4 (by omega) (by simp) hb false (Beg_stop _)))) ?_
  rw [Bool.or_false]
  by_cases h : beg [a, b]
  · rw [decide_eq_true h]
    rcases h with h | h
    · rw [any_true (x := [a, b]) (n := 3) 128 (.inl rfl) ⟨h.1, h.2.1, h.2.2.1, h.2.2.2, by decide, by decide⟩]
      rfl
    · rw [any_true (x := [a, b]) (n := 4) 128 (.inl rfl) ⟨h.1, h.2.1, h.2.2.1, h.2.2.2, by decide, by decide, by decide, by decide⟩]
      simp
  · rw [decide_eq_false h, any_false (x := [a, b]) (n := 3) (fun v hv => h (.inl ⟨hv.1, hv.2.1, hv.2.2.1, hv.2.2.2.1⟩)), any_false (x := [a, b]) (n := 4) (fun v hv => h (.inr ⟨hv.1, hv.2.1, hv.2.2.1, hv.2.2.2.1⟩))]
    rfl
theorem Beg1 (a : Int) (hb : Bytes [a]) : Ev (fun k => batonref08_Begins.f k [a]) (decide (beg [a])) := by
  refine ev_eq (Beg_start _ (by simp) (by simp) _ (Beg_l0 [a] 2 (by omega) (by simp) hb _ (Beg_l0 [a] 3 (by omega) (by simp) hb _ (Beg_l0 [a] 4 (by omega) (by simp) hb false (Beg_stop _))))) ?_
  rw [Bool.or_false]
  by_cases h : beg [a]
  · rw [decide_eq_true h]
    have h' : 194 ≤ a ∧ a ≤ 244 := h
    by_cases c1 : a ≤ 223
    · rw [any_true (x := [a]) (n := 2) 128 (.inl rfl) ⟨by omega, by omega, by decide, by decide⟩]
      rfl
    · by_cases c2 : a ≤ 239
      · have : anyHit [a] 3 = true := by
          by_cases e : a = 224
          · exact any_true 160 (.inr rfl) ⟨by omega, by omega, by unfold lo3; rw [if_pos e]; omega, by unfold hi3; split <;> omega, by decide, by decide⟩
          · exact any_true 128 (.inl rfl) ⟨by omega, by omega, by unfold lo3; rw [if_neg e]; omega, by unfold hi3; split <;> omega, by decide, by decide⟩
        rw [this]
        simp
      · have : anyHit [a] 4 = true := by
          by_cases e : a = 240
          · exact any_true' ⟨by omega, by omega, by unfold lo4; rw [if_pos e]; omega, by unfold hi4; split <;> omega, by decide, by decide, by decide, by decide⟩
          · exact any_true 128 (.inl rfl) ⟨by omega, by omega, by unfold lo4; rw [if_neg e]; omega, by unfold hi4; split <;> omega, by decide, by decide, by decide, by decide⟩
        rw [this]
        simp
  · rw [decide_eq_false h, any_false (x := [a]) (n := 2) (fun v hv => h ⟨hv.1, by have := hv.2.1; omega⟩), any_false (x := [a]) (n := 3) (fun v hv => h ⟨by have := hv.1; omega, by have := hv.2.1; omega⟩), any_false (x := [a]) (n := 4) (fun v hv => h ⟨by have := hv.1; omega, by have := hv.2.1; omega⟩)]
    rfl
theorem Begins_ev : ∀ x, Bytes x → 1 ≤ x.length → Ev (fun k => batonref08_Begins.f k x) (decide (beg x))
  | [], _, h => absurd h (by simp)
  | [a], hb, _ => Beg1 a hb
  | [a, b], hb, _ => Beg2 a b hb
  | [a, b, c], hb, _ => Beg3 a b c hb
  | a :: b :: c :: d :: t, hb, _ => by
    unfold batonref08_Begins.f
    simp only [if_neg (show ¬ ((a :: b :: c :: d :: t).length : Int) = 0 by simp; omega), decide_eq_true (show ((a :: b :: c :: d :: t).length : Int) > 3 by simp; omega)]
    apply ev_succ
    simp only [batonref08_Begins.j0, if_true]
    exact ev_eq (ev_some _) (decide_eq_false (fun h => h)).symm
theorem Put_ev0 (b : Int) (hb : 0 ≤ b ∧ b ≤ 255) : Ev (fun k => batonref08_Put.f k [] b) (ref1 b) := by
  have hB : Bytes [b] := fun x hx => by simp at hx; omega
  apply ev_succ
  simp only [batonref08_Put.f, Option.bind_some, List.nil_append, List.length_nil, if_pos (show 0 + 0 < 140737488355328 by omega), if_pos (show 0 < 140737488355328 by omega)]
  refine ev_bind (Whole_ev [b] hB (by simp) (by simp)) ?_
  unfold ref1
  by_cases h : wh [b]
  · simp only [if_pos h, if_pos (show cp [b] ≥ 0 from hb.1)]
    exact ev_some _
  · simp only [if_neg h, if_neg (show ¬ (-1 : Int) ≥ 0 by decide)]
    refine ev_bind (Begins_ev [b] hB (by simp)) ?_
    by_cases h2 : beg [b]
    · simp only [if_pos h2, decide_eq_true h2, if_true]
      exact ev_some _
    · simp only [if_neg h2, decide_eq_false h2, Bool.false_eq_true, if_false]
      exact ev_some _
theorem Put_ev (W : List Int) (hW : Bytes W) (hl : W.length ≤ 3) (b : Int) (hb : 0 ≤ b ∧ b ≤ 255) : Ev (fun k => batonref08_Put.f k W b) (refPut W b) := by
  by_cases hn : W = []
  · subst hn
    rw [refPut_nil]
    exact Put_ev0 b hb
  · have hB : Bytes (W ++ [b]) := hW.append (fun x hx => by simp at hx; omega)
    have hln : (W ++ [b]).length = W.length + 1 := by simp
    have hW1 : 1 ≤ W.length := List.length_pos_iff.2 hn
    apply ev_succ
    simp only [batonref08_Put.f, Option.bind_some, List.nil_append, List.length_nil, if_pos (show 0 + W.length < 140737488355328 by omega), if_pos (show W.length < 140737488355328 by omega)]
    refine ev_bind (Whole_ev (W ++ [b]) hB (by omega) (by omega)) ?_
    unfold refPut
    by_cases h : wh (W ++ [b])
    · simp only [if_pos h, if_pos (show cp (W ++ [b]) ≥ 0 from cp_nonneg _ hB h)]
      exact ev_some _
    · simp only [if_neg h, if_neg (show ¬ (-1 : Int) ≥ 0 by decide)]
      refine ev_bind (Begins_ev (W ++ [b]) hB (by omega)) ?_
      by_cases h2 : beg (W ++ [b])
      · simp only [if_pos h2, decide_eq_true h2, if_true]
        exact ev_some _
      · simp only [if_neg h2, decide_eq_false h2, Bool.false_eq_true, if_false, if_neg hn, if_neg (show ¬ (W.length : Int) = 0 by omega)]
        refine ev_bind (Put_ev0 b hb) ?_
        have := ref1_len b
        simp only [if_pos (show ([65533] : List Int).length + (ref1 b).2.length < 17592186044416 by simp; omega)]
        exact ev_some _

/-! #### the decoder -/
def st : List Int → Int × Int × Int × Int × Int
  | [a] => if a ≤ 223 then (a - 192, 1, 128, 191, 1) else if a ≤ 239 then (a - 224, 2, lo3 a, hi3 a, 1) else (a - 240, 3, lo4 a, hi4 a, 1)
  | [a, b] => if a ≤ 239 then ((a - 224) * 64 + b - 128, 1, 128, 191, 2) else ((a - 240) * 64 + b - 128, 2, 128, 191, 2)
  | [a, b, c] => (((a - 240) * 64 + b - 128) * 64 + c - 128, 1, 128, 191, 3)
  | _ => (0, 0, 0, 0, 0)
theorem and_i32_small (m : Nat) (hm : ∀ n : Fin 256, Go.bits .and .i32 (wrap32 (n.val : Int)) (m : Int) = ((n.val &&& m : Nat) : Int)) (b : Int) (hb : 0 ≤ b ∧ b ≤ 255) : Go.bits .and .i32 (wrap32 b) (m : Int) = ((b.toNat &&& m : Nat) : Int) := by
  have := hm ⟨b.toNat, by omega⟩
  simp only at this
  rwa [Int.toNat_of_nonneg hb.1] at this
theorem and31 (b : Int) (hb : 0 ≤ b ∧ b ≤ 255) : Go.bits .and .i32 (wrap32 b) (shr .i32 63 (IntKind.u64.wrap 1)) = b % 32 := by
  have h1 : ∀ n : Fin 256, Go.bits .and .i32 (wrap32 (n.val : Int)) (shr .i32 63 (IntKind.u64.wrap 1)) = (n.val : Int) % 32 := by decide +kernel
  have := h1 ⟨b.toNat, by omega⟩
  simp only at this
  rwa [Int.toNat_of_nonneg hb.1] at this
theorem and15 (b : Int) (hb : 0 ≤ b ∧ b ≤ 255) : Go.bits .and .i32 (wrap32 b) (shr .i32 63 (IntKind.u64.wrap 2)) = b % 16 := by
  have h1 : ∀ n : Fin 256, Go.bits .and .i32 (wrap32 (n.val : Int)) (shr .i32 63 (IntKind.u64.wrap 2)) = (n.val : Int) % 16 := by decide +kernel
  have := h1 ⟨b.toNat, by omega⟩
  simp only at this
  rwa [Int.toNat_of_nonneg hb.1] at this
theorem and7 (b : Int) (hb : 0 ≤ b ∧ b ≤ 255) : Go.bits .and .i32 (wrap32 b) (shr .i32 63 (IntKind.u64.wrap 3)) = b % 8 := by
  have h1 : ∀ n : Fin 256, Go.bits .and .i32 (wrap32 (n.val : Int)) (shr .i32 63 (IntKind.u64.wrap 3)) = (n.val : Int) % 8 := by decide +kernel
  have := h1 ⟨b.toNat, by omega⟩
  simp only at this
  rwa [Int.toNat_of_nonneg hb.1] at this
theorem and63 (b : Int) (hb : 0 ≤ b ∧ b ≤ 255) : wrap32 (Go.bits .and .u8 b 63) = b % 64 := by
  have h1 : ∀ n : Fin 256, wrap32 (Go.bits .and .u8 (n.val : Int) 63) = (n.val : Int) % 64 := by decide +kernel
  have := h1 ⟨b.toNat, by omega⟩
  simp only at this
  rwa [Int.toNat_of_nonneg hb.1] at this
theorem wrap32_of {x : Int} (h1 : -2147483648 ≤ x) (h2 : x ≤ 2147483647) : wrap32 x = x := by unfold wrap32; omega
theorem or6 (c b : Int) (hc : 0 ≤ c ∧ c ≤ 1000000) (hb : 0 ≤ b ∧ b ≤ 255) : Go.bits .or .i32 (wrap32 (c * 64)) (wrap32 (Go.bits .and .u8 b 63)) = c * 64 + b % 64 := by
  rw [and63 b hb, wrap32_of (by omega) (by omega)]
  refine bits_join .i32 31 (by decide) (fun n h0 h1 => ?_) 6 (c * 64) (b % 64) (by omega) (by omega) (by omega) (by omega) (by omega) (by omega)
  rw [IntKind.wrap_i32]
  omega
theorem st_a {a : Int} (h : a ≤ 223) : st [a] = (a - 192, 1, 128, 191, 1) := if_pos h
theorem st_b {a : Int} (h : ¬ a ≤ 223) (h2 : a ≤ 239) : st [a] = (a - 224, 2, lo3 a, hi3 a, 1) := (if_neg h).trans (if_pos h2)
theorem st_c {a : Int} (h : ¬ a ≤ 223) (h2 : ¬ a ≤ 239) : st [a] = (a - 240, 3, lo4 a, hi4 a, 1) := (if_neg h).trans (if_neg h2)
theorem st_d {a b : Int} (h2 : a ≤ 239) : st [a, b] = ((a - 224) * 64 + b - 128, 1, 128, 191, 2) := if_pos h2
theorem st_e {a b : Int} (h2 : ¬ a ≤ 239) : st [a, b] = ((a - 240) * 64 + b - 128, 2, 128, 191, 2) := if_neg h2
theorem st_f (a b c : Int) : st [a, b, c] = (((a - 240) * 64 + b - 128) * 64 + c - 128, 1, 128, 191, 3) := rfl
def st5 (o : List Int) (s : Int × Int × Int × Int × Int) : List Int × Int × Int × Int × Int × Int := (o, s.1, s.2.1, s.2.2.1, s.2.2.2.1, s.2.2.2.2)
theorem begin_ev (b : Int) (hb : 0 ≤ b ∧ b ≤ 255) : Ev (fun k => runes_Decoder_begin.f k 0 0 0 0 0 b) (st5 (ref1 b).2 (st (ref1 b).1)) := by
  have u0 : ∀ n : Int, 0 ≤ n → n ≤ 3 → (0 ≤ IntKind.u64.wrap n) := fun n h0 h1 => by rw [IntKind.wrap_u64]; omega
  have hw1 : wh [b] ↔ b < 128 := Iff.rfl
  have hb1 : beg [b] ↔ 194 ≤ b ∧ b ≤ 244 := Iff.rfl
  have j2 : ∀ n : Int, 1 ≤ n → n ≤ 3 → ∀ m : Int, Go.bits .and .i32 (wrap32 b) (shr .i32 63 (IntKind.u64.wrap n)) = m → Ev (fun k => runes_Decoder_begin.j2 k b 128 191 n) ([], m, n, if b = 224 then 160 else if b = 240 then 144 else 128, if b = 237 then 159 else if b = 244 then 143 else 191, 1) := fun n h0 h1 m hm => by
    apply ev_succ
    simp only [runes_Decoder_begin.j2, if_pos (u0 n (by omega) h1), hm]
    by_cases c1 : b = 224
    · simp only [if_pos c1, if_neg (show ¬ b = 237 by omega), if_neg (show ¬ b = 244 by omega)]
      exact ev_some _
    · by_cases c2 : b = 237
      · simp only [if_neg c1, if_pos c2, if_neg (show ¬ b = 240 by omega)]
        exact ev_some _
      · by_cases c3 : b = 240
        · simp only [if_neg c1, if_neg c2, if_pos c3, if_neg (show ¬ b = 244 by omega)]
          exact ev_some _
        · simp only [if_neg c1, if_neg c2, if_neg c3]
          by_cases c4 : b = 244
          · simp only [if_pos c4]
            exact ev_some _
          · simp only [if_neg c4]
            exact ev_some _
  unfold runes_Decoder_begin.f
  by_cases c0 : b < 128
  · simp only [if_pos c0, wrap32_of (show -2147483648 ≤ b by omega) (show b ≤ 2147483647 by omega)]
    refine ev_eq (ev_some _) ?_
    unfold ref1
    rw [if_pos (hw1.2 c0)]
    rfl
  · simp only [if_neg c0]
    unfold ref1
    rw [if_neg (show ¬ wh [b] from c0)]
    have bad : (b < 194 ∨ 244 < b) → (if beg [b] then (([b], []) : List Int × List Int) else ([], [65533])) = ([], [65533]) := fun h => if_neg (fun h2 => by have := hb1.1 h2; omega)
    have good : (194 ≤ b ∧ b ≤ 244) → (if beg [b] then (([b], []) : List Int × List Int) else ([], [65533])) = ([b], []) := fun h => if_pos (hb1.2 h)
    by_cases c1 : b ≥ 194
    · simp only [if_pos c1]
      by_cases c2 : b ≤ 223
      · rw [decide_eq_true c2, good ⟨c1, by omega⟩]
        apply ev_succ
        simp only [runes_Decoder_begin.j0, if_true]
        refine ev_eq (j2 1 (by omega) (by omega) (b % 32) (and31 b hb)) ?_
        rw [st_a c2]
        unfold st5
        rw [if_neg (show ¬ b = 224 by omega), if_neg (show ¬ b = 240 by omega), if_neg (show ¬ b = 237 by omega), if_neg (show ¬ b = 244 by omega), show b % 32 = b - 192 by omega]
      · rw [decide_eq_false c2]
        apply ev_succ
        simp only [runes_Decoder_begin.j0, Bool.false_eq_true, if_false, if_pos (show b ≥ 224 by omega)]
        by_cases c3 : b ≤ 239
        · rw [decide_eq_true c3, good ⟨c1, by omega⟩]
          apply ev_succ
          simp only [runes_Decoder_begin.j1, if_true]
          refine ev_eq (j2 2 (by omega) (by omega) (b % 16) (and15 b hb)) ?_
          rw [st_b c2 c3]
          unfold st5 lo3 hi3
          rw [if_neg (show ¬ b = 240 by omega), if_neg (show ¬ b = 244 by omega), show b % 16 = b - 224 by omega]
        · rw [decide_eq_false c3]
          apply ev_succ
          simp only [runes_Decoder_begin.j1, Bool.false_eq_true, if_false, if_pos (show b ≥ 240 by omega)]
          by_cases c4 : b ≤ 244
          · simp only [if_pos c4]
            rw [good ⟨c1, c4⟩]
            refine ev_eq (j2 3 (by omega) (by omega) (b % 8) (and7 b hb)) ?_
            rw [st_c c2 c3]
            unfold st5 lo4 hi4
            rw [if_neg (show ¬ b = 224 by omega), if_neg (show ¬ b = 237 by omega), show b % 8 = b - 240 by omega]
          · simp only [if_neg c4]
            rw [bad (by omega)]
            exact ev_some _
    · simp only [if_neg c1]
      rw [bad (by omega)]
      apply ev_succ
      simp only [runes_Decoder_begin.j0, Bool.false_eq_true, if_false, if_neg (show ¬ b ≥ 224 by omega)]
      apply ev_succ
      simp only [runes_Decoder_begin.j1, Bool.false_eq_true, if_false, if_neg (show ¬ b ≥ 240 by omega)]
      exact ev_some _
theorem DPut_gen (c n lo hi came b : Int) (hc : 0 ≤ c ∧ c ≤ 1000000) (hn : 1 ≤ n ∧ n ≤ 3) (hm : 0 ≤ came ∧ came ≤ 3) (hb : 0 ≤ b ∧ b ≤ 255) : Ev (fun k => runes_Decoder_Put.f k c n lo hi came b)
    (if b < lo ∨ b > hi then st5 (65533 :: (ref1 b).2) (st (ref1 b).1) else if n = 1 then st5 [c * 64 + b % 64] (0, 0, 0, 0, 0) else st5 [] (c * 64 + b % 64, n - 1, 128, 191, came + 1)) := by
  have jt : Ev (fun k => runes_Decoder_Put.j0 k b true c n lo hi came) (st5 (65533 :: (ref1 b).2) (st (ref1 b).1)) := by
    apply ev_succ
    simp only [runes_Decoder_Put.j0, if_true, Option.bind_some]
    refine ev_bind (begin_ev b hb) ?_
    have := ref1_len b
    simp only [if_pos (show ([65533] : List Int).length + (st5 (ref1 b).2 (st (ref1 b).1)).1.length < 35184372088832 by show 1 + (ref1 b).2.length < 35184372088832; omega)]
    exact ev_some _
  unfold runes_Decoder_Put.f
  simp only [if_neg (show ¬ n = 0 by omega)]
  by_cases h1 : b < lo
  · simp only [if_pos h1, if_pos (show b < lo ∨ b > hi from .inl h1)]
    exact jt
  · simp only [if_neg h1]
    by_cases h2 : b > hi
    · rw [decide_eq_true h2, if_pos (.inr h2)]
      exact jt
    · rw [decide_eq_false h2, if_neg (by omega)]
      apply ev_succ
      simp only [runes_Decoder_Put.j0, Bool.false_eq_true, if_false, or6 c b hc hb]
      by_cases h3 : n = 1
      · simp only [if_pos h3]
        exact ev_some _
      · simp only [if_neg h3]
        rw [w64 (x := n - 1) (by omega) (by omega), w64 (x := came + 1) (by omega) (by omega)]
        exact ev_some _
theorem refPut_bad {W : List Int} {b : Int} (h3 : W ≠ []) (h1 : ¬ wh (W ++ [b])) (h2 : ¬ beg (W ++ [b])) : refPut W b = ((ref1 b).1, 65533 :: (ref1 b).2) := by
  unfold refPut
  rw [if_neg h1, if_neg h2, if_neg h3]
theorem refPut_whole {W : List Int} {b : Int} (h1 : wh (W ++ [b])) : refPut W b = ([], [cp (W ++ [b])]) := by
  unfold refPut
  rw [if_pos h1]
theorem refPut_beg {W : List Int} {b : Int} (h1 : ¬ wh (W ++ [b])) (h2 : beg (W ++ [b])) : refPut W b = (W ++ [b], []) := by
  unfold refPut
  rw [if_neg h1, if_pos h2]
def DP (k : Nat) (s : Int × Int × Int × Int × Int) (b : Int) : Option (List Int × Int × Int × Int × Int × Int) := runes_Decoder_Put.f k s.1 s.2.1 s.2.2.1 s.2.2.2.1 s.2.2.2.2 b
theorem DPut_ev : ∀ (W : List Int), (W = [] ∨ beg W) → Bytes W → ∀ b : Int, 0 ≤ b ∧ b ≤ 255 → Ev (fun k => DP k (st W) b) (st5 (refPut W b).2 (st (refPut W b).1))
  | [], _, _, b, hb => by
    rw [refPut_nil]
    show Ev (fun k => runes_Decoder_Put.f k 0 0 0 0 0 b) _
    unfold runes_Decoder_Put.f
    simp only [if_true]
    exact ev_bind (begin_ev b hb) (ev_some _)
  | [a], h, hB, b, hb => by
    have hbeg : 194 ≤ a ∧ a ≤ 244 := h.resolve_left (by simp)
    by_cases c1 : a ≤ 223
    · rw [st_a c1]
      refine ev_eq (DPut_gen (a - 192) 1 128 191 1 b (by omega) (by omega) (by omega) hb) ?_
      by_cases c : b < 128 ∨ b > 191
      · rw [if_pos c, refPut_bad (W := [a]) (by simp) (fun h : wh [a, b] => by have := (wh2_iff a b).1 h; omega) (fun h : beg [a, b] => by rcases h with h | h <;> omega)]
      · rw [if_neg c, if_pos rfl, refPut_whole (W := [a]) (show wh [a, b] from ⟨by omega, by omega, by omega, by omega⟩)]
        show st5 _ _ = st5 [(a - 192) * 64 + b - 128] _
        rw [show (a - 192) * 64 + b % 64 = (a - 192) * 64 + b - 128 by omega]
        rfl
    · by_cases c2 : a ≤ 239
      · rw [st_b c1 c2]
        have := lo3_ge a
        have := hi3_le a
        refine ev_eq (DPut_gen (a - 224) 2 (lo3 a) (hi3 a) 1 b (by omega) (by omega) (by omega) hb) ?_
        have nw : ¬ wh ([a] ++ [b]) := fun h : wh [a, b] => by have := (wh2_iff a b).1 h; omega
        by_cases c : b < lo3 a ∨ b > hi3 a
        · rw [if_pos c, refPut_bad (W := [a]) (by simp) nw (fun h : beg [a, b] => by rcases h with h | h <;> omega)]
        · rw [if_neg c, if_neg (by decide), refPut_beg (W := [a]) nw (show beg [a, b] from .inl ⟨by omega, by omega, by omega, by omega⟩)]
          show _ = st5 [] (st [a, b])
          rw [st_d c2, show (a - 224) * 64 + b % 64 = (a - 224) * 64 + b - 128 by omega]
          rfl
      · rw [st_c c1 c2]
        have := lo4_ge a
        have := hi4_le a
        refine ev_eq (DPut_gen (a - 240) 3 (lo4 a) (hi4 a) 1 b (by omega) (by omega) (by omega) hb) ?_
        have nw : ¬ wh ([a] ++ [b]) := fun h : wh [a, b] => by have := (wh2_iff a b).1 h; omega
        by_cases c : b < lo4 a ∨ b > hi4 a
        · rw [if_pos c, refPut_bad (W := [a]) (by simp) nw (fun h : beg [a, b] => by rcases h with h | h <;> omega)]
        · rw [if_neg c, if_neg (by decide), refPut_beg (W := [a]) nw (show beg [a, b] from .inr ⟨by omega, by omega, by omega, by omega⟩)]
          show _ = st5 [] (st [a, b])
          rw [st_e c2, show (a - 240) * 64 + b % 64 = (a - 240) * 64 + b - 128 by omega]
          rfl
  | [a, b'], h, hB, b, hb => by
    have hbeg : beg [a, b'] := h.resolve_left (by simp)
    by_cases c2 : a ≤ 239
    · have h' : 224 ≤ a ∧ a ≤ 239 ∧ lo3 a ≤ b' ∧ b' ≤ hi3 a := by rcases hbeg with h | h <;> first | exact h | omega
      have := lo3_ge a
      have := hi3_le a
      rw [st_d c2]
      refine ev_eq (DPut_gen ((a - 224) * 64 + b' - 128) 1 128 191 2 b (by omega) (by omega) (by omega) hb) ?_
      by_cases c : b < 128 ∨ b > 191
      · rw [if_pos c, refPut_bad (W := [a, b']) (by simp) (fun h : wh [a, b', b] => by have := (wh3_iff a b' b).1 h; omega) (fun h : beg [a, b', b] => by have := h.1; omega)]
      · rw [if_neg c, if_pos rfl, refPut_whole (W := [a, b']) (show wh [a, b', b] from ⟨h'.1, h'.2.1, h'.2.2.1, h'.2.2.2, by omega, by omega⟩)]
        show st5 _ _ = st5 [((a - 224) * 64 + b' - 128) * 64 + b - 128] _
        rw [show ((a - 224) * 64 + b' - 128) * 64 + b % 64 = ((a - 224) * 64 + b' - 128) * 64 + b - 128 by omega]
        rfl
    · have h' : 240 ≤ a ∧ a ≤ 244 ∧ lo4 a ≤ b' ∧ b' ≤ hi4 a := by rcases hbeg with h | h <;> first | exact h | omega
      have := lo4_ge a
      have := hi4_le a
      rw [st_e c2]
      refine ev_eq (DPut_gen ((a - 240) * 64 + b' - 128) 2 128 191 2 b (by omega) (by omega) (by omega) hb) ?_
      have nw : ¬ wh ([a, b'] ++ [b]) := fun h : wh [a, b', b] => by have := (wh3_iff a b' b).1 h; omega
      by_cases c : b < 128 ∨ b > 191
      · rw [if_pos c, refPut_bad (W := [a, b']) (by simp) nw (fun h : beg [a, b', b] => by have := h.2.2.2.2.1; have := h.2.2.2.2.2; omega)]
      · rw [if_neg c, if_neg (by decide), refPut_beg (W := [a, b']) nw (show beg [a, b', b] from ⟨h'.1, h'.2.1, h'.2.2.1, h'.2.2.2, by omega, by omega⟩)]
        show _ = st5 [] (st [a, b', b])
        rw [st_f, show ((a - 240) * 64 + b' - 128) * 64 + b % 64 = ((a - 240) * 64 + b' - 128) * 64 + b - 128 by omega]
        rfl
  | [a, b', c'], h, hB, b, hb => by
    have h' : 240 ≤ a ∧ a ≤ 244 ∧ lo4 a ≤ b' ∧ b' ≤ hi4 a ∧ 128 ≤ c' ∧ c' ≤ 191 := h.resolve_left (by simp)
    have := lo4_ge a
    have := hi4_le a
    rw [st_f]
    refine ev_eq (DPut_gen (((a - 240) * 64 + b' - 128) * 64 + c' - 128) 1 128 191 3 b (by omega) (by omega) (by omega) hb) ?_
    by_cases c : b < 128 ∨ b > 191
    · rw [if_pos c, refPut_bad (W := [a, b', c']) (by simp) (fun h : wh [a, b', c', b] => by have := (wh4_iff a b' c' b).1 h; omega) (fun h : beg [a, b', c', b] => h)]
    · rw [if_neg c, if_pos rfl, refPut_whole (W := [a, b', c']) (show wh [a, b', c', b] from ⟨h'.1, h'.2.1, h'.2.2.1, h'.2.2.2.1, h'.2.2.2.2.1, h'.2.2.2.2.2, by omega, by omega⟩)]
      show st5 _ _ = st5 [(((a - 240) * 64 + b' - 128) * 64 + c' - 128) * 64 + b - 128] _
      rw [show (((a - 240) * 64 + b' - 128) * 64 + c' - 128) * 64 + b % 64 = (((a - 240) * 64 + b' - 128) * 64 + c' - 128) * 64 + b - 128 by omega]
      rfl
  | _ :: _ :: _ :: _ :: _, h, _, _, _ => h.elim (fun h => by simp at h) (fun h => h.elim)
theorem ref1_inv (b : Int) (hb : 0 ≤ b ∧ b ≤ 255) : ((ref1 b).1 = [] ∨ beg (ref1 b).1) ∧ Bytes (ref1 b).1 := by
  unfold ref1
  split
  · exact ⟨.inl rfl, fun x hx => by simp at hx⟩
  · split
    · rename_i h
      exact ⟨.inr h, fun x hx => by simp at hx; omega⟩
    · exact ⟨.inl rfl, fun x hx => by simp at hx⟩
theorem refPut_inv (W : List Int) (hB : Bytes W) (b : Int) (hb : 0 ≤ b ∧ b ≤ 255) : ((refPut W b).1 = [] ∨ beg (refPut W b).1) ∧ Bytes (refPut W b).1 := by
  unfold refPut
  split
  · exact ⟨.inl rfl, fun x hx => by simp at hx⟩
  · split
    · rename_i h
      exact ⟨.inr h, hB.append (fun x hx => by simp at hx; omega)⟩
    · split
      · exact ⟨.inl rfl, fun x hx => by simp at hx⟩
      · exact ref1_inv b hb
theorem refPut_len (W : List Int) (b : Int) : (refPut W b).2.length ≤ 2 := by
  unfold refPut
  split
  · simp
  · split
    · simp
    · split
      · simp
      · have := ref1_len b
        simp
        omega
theorem beg_len : ∀ W, beg W → 1 ≤ W.length ∧ W.length ≤ 3
  | [], h => h.elim
  | [_], _ => by simp
  | [_, _], _ => by simp
  | [_, _, _], _ => by simp
  | _ :: _ :: _ :: _ :: _, h => h.elim
theorem inv_len {W : List Int} (h : W = [] ∨ beg W) : W.length ≤ 3 := by
  rcases h with rfl | h
  · simp
  · exact (beg_len W h).2
theorem st_need (W : List Int) (h : W = [] ∨ beg W) : ((st W).2.1 = 0 ↔ W = []) ∧ (st W).2.2.2.2 = (W.length : Int) := by
  match W, h with
  | [], _ => exact ⟨by simp [st], rfl⟩
  | [a], _ =>
    by_cases c1 : a ≤ 223
    · rw [st_a c1]
      simp
    · by_cases c2 : a ≤ 239
      · rw [st_b c1 c2]
        simp
      · rw [st_c c1 c2]
        simp
  | [a, b], _ =>
    by_cases c2 : a ≤ 239
    · rw [st_d c2]
      simp
    · rw [st_e c2]
      simp
  | [a, b, c], _ =>
    rw [st_f]
    simp
  | _ :: _ :: _ :: _ :: _, h => exact h.elim (fun h => by simp at h) (fun h => h.elim)
theorem End_f (W : List Int) (h : W = [] ∨ beg W) : runes_Decoder_End.f (st W).1 (st W).2.1 (st W).2.2.1 (st W).2.2.2.1 (st W).2.2.2.2 = some (if W = [] then st5 [] (st W) else st5 [65533] (0, 0, 0, 0, 0)) := by
  unfold runes_Decoder_End.f
  by_cases c : W = []
  · rw [if_pos ((st_need W h).1.2 c), if_pos c]
    rfl
  · rw [if_neg (fun e => c ((st_need W h).1.1 e)), if_neg c]
    rfl
/-- What bytes tell, with some that wait ahead. -/
def tells (W : List Int) : List Int → List Int
  | [] => if W = [] then [] else [65533]
  | b :: t => (refPut W b).2 ++ tells (refPut W b).1 t
theorem All_l0 (l : List Int) (hl : l.length ≤ 1000000) (hB : Bytes l) : ∀ (d i : Nat) (W o : List Int), l.length - i = d → i ≤ l.length → (W = [] ∨ beg W) → Bytes W → o.length ≤ 2 * i → Ev (fun k => runes_All.l0 k o l (l.length : Int) (i : Int) (st W).1 (st W).2.1 (st W).2.2.1 (st W).2.2.2.1 (st W).2.2.2.2) (o ++ tells W (l.drop i)) := by
  intro d
  induction d with
  | zero =>
    intro i W o hd hi hW hBW ho
    obtain rfl : i = l.length := by omega
    apply ev_succ
    simp only [runes_All.l0, if_neg (show ¬ ((l.length : Int) < (l.length : Int)) by omega), End_f W hW, Option.bind_some, List.drop_length, tells]
    by_cases c : W = []
    · simp only [if_pos c, st5, List.append_nil, List.length_nil, if_pos (show o.length + 0 < 35184372088832 by omega)]
      exact ev_some _
    · simp only [if_neg c, st5, if_pos (show o.length + ([65533] : List Int).length < 35184372088832 by simp; omega)]
      exact ev_some _
  | succ d ih =>
    intro i W o hd hi hW hBW ho
    have hlt : i < l.length := by omega
    have hw : wrap64 ((i : Int) + 1) = ((i + 1 : Nat) : Int) := by rw [w64 (by omega) (by omega)]; omega
    have hb := hB l[i] (List.getElem_mem hlt)
    have hp := refPut_len W l[i]
    obtain ⟨h1, h2⟩ := refPut_inv W hBW l[i] hb
    apply ev_succ
    simp only [runes_All.l0, if_pos (show (i : Int) < (l.length : Int) by omega), if_pos (show (0 : Int) ≤ (i : Int) by omega), rd_lt hlt]
    refine ev_bind (DPut_ev W hW hBW l[i] hb) ?_
    simp only [st5, if_pos (show o.length + (refPut W l[i]).2.length < 35184372088832 by omega), hw]
    refine ev_eq (ih (i + 1) _ _ (by omega) (by omega) h1 h2 (by rw [List.length_append]; omega)) ?_
    rw [List.drop_eq_getElem_cons hlt, tells, List.append_assoc]
theorem All_ev (l : List Int) (hl : l.length ≤ 1000000) (hB : Bytes l) : Ev (fun k => runes_All.f k l) (tells [] l) := by
  unfold runes_All.f
  have := All_l0 l hl hB l.length 0 [] [] (by omega) (by omega) (.inl rfl) (fun x hx => by simp at hx) (by simp)
  exact this
theorem awake08 : Ev (fun k => batonlaw08_awake.f k) true := by
  unfold batonlaw08_awake.f
  refine ev_bind (All_ev [226, 130, 65] (by simp) (fun x hx => by simp at hx; omega)) ?_
  rw [show tells [] [226, 130, 65] = [65533, 65] from by decide]
  exact ev_some _

/-! #### a sign's own bytes -/
theorem whenc (c : Int) (h : sign c) : wh (enc c) ∧ cp (enc c) = c := by
  have h0 := h
  unfold sign at h0
  unfold enc
  by_cases c1 : c < 128
  · rw [if_pos c1]
    exact ⟨c1, rfl⟩
  · rw [if_neg c1]
    by_cases c2 : c < 2048
    · rw [if_pos c2]
      exact ⟨⟨by omega, by omega, by omega, by omega⟩, by show (192 + c / 64 - 192) * 64 + (128 + c % 64) - 128 = c; omega⟩
    · rw [if_neg c2]
      by_cases c3 : c < 65536
      · rw [if_pos c3]
        have hcp : cp [224 + c / 4096, 128 + c / 64 % 64, 128 + c % 64] = c := by
          show ((224 + c / 4096 - 224) * 64 + (128 + c / 64 % 64) - 128) * 64 + (128 + c % 64) - 128 = c
          omega
        refine ⟨(enc3 _ _ _ (by omega) (by omega) (by omega)).1 ⟨by rw [hcp]; exact h, ?_⟩, hcp⟩
        rw [hcp]
        unfold enc
        rw [if_neg c1, if_neg c2, if_pos c3]
      · rw [if_neg c3]
        have hcp : cp [240 + c / 262144, 128 + c / 4096 % 64, 128 + c / 64 % 64, 128 + c % 64] = c := by
          show (((240 + c / 262144 - 240) * 64 + (128 + c / 4096 % 64) - 128) * 64 + (128 + c / 64 % 64) - 128) * 64 + (128 + c % 64) - 128 = c
          omega
        refine ⟨(enc4 _ _ _ _ (by omega) (by omega) (by omega) (by omega)).1 ⟨by rw [hcp]; exact h, ?_⟩, hcp⟩
        rw [hcp]
        unfold enc
        rw [if_neg c1, if_neg c2, if_neg c3]
theorem enc_bytes (c : Int) (h : sign c) : Bytes (enc c) := by
  unfold sign at h
  unfold enc
  intro x hx
  by_cases c1 : c < 128
  · rw [if_pos c1] at hx
    simp at hx
    omega
  · rw [if_neg c1] at hx
    by_cases c2 : c < 2048
    · rw [if_pos c2] at hx
      simp at hx
      omega
    · rw [if_neg c2] at hx
      by_cases c3 : c < 65536
      · rw [if_pos c3] at hx
        simp at hx
        omega
      · rw [if_neg c3] at hx
        simp at hx
        omega
theorem sign65533 : sign 65533 := by decide
theorem enc'_bytes (c : Int) : Bytes (enc' c) := by
  unfold enc'
  split
  · rename_i h
    exact enc_bytes c h
  · exact enc_bytes _ sign65533
theorem enc'_len (c : Int) : (enc' c).length ≤ 4 := by
  unfold enc'
  split <;> exact enc_len _
theorem enc8_eq (c : Int) (h : sign c) : enc8 c = enc c := by
  have hv : Utf8.valid c = true := by
    rw [validRune_eq]
    unfold sign at h
    exact decide_eq_true (by omega)
  unfold enc8 Utf8.encode enc
  simp only [hv, if_true]
  obtain ⟨n, rfl⟩ : ∃ n : Nat, c = n := ⟨c.toNat, by unfold sign at h; omega⟩
  simp only [Int.toNat_natCast]
  unfold sign at h
  by_cases c1 : n < 128
  · rw [if_pos c1, if_pos (by omega)]
    simp
    omega
  · rw [if_neg c1, if_neg (show ¬ (n : Int) < 128 by omega)]
    by_cases c2 : n < 2048
    · rw [if_pos c2, if_pos (show (n : Int) < 2048 by omega)]
      simp
      omega
    · rw [if_neg c2, if_neg (show ¬ (n : Int) < 2048 by omega)]
      by_cases c3 : n < 65536
      · rw [if_pos c3, if_pos (show (n : Int) < 65536 by omega)]
        simp
        omega
      · rw [if_neg c3, if_neg (show ¬ (n : Int) < 65536 by omega)]
        simp
        omega
theorem RBytes_f (c : Int) : runes_Bytes.f c = some (enc' c) := by
  unfold runes_Bytes.f enc'
  by_cases h : sign c
  · rw [if_pos h, if_neg (by unfold sign at h; omega), enc8_eq c h]
  · rw [if_neg h, if_pos (by unfold sign at h; omega), enc8_eq _ sign65533]

/-! ### texts of whole signs -/
/-- How many bytes the sign has that a text begins with; 0: it begins with none. -/
def wlen (l : List Int) : Nat := if wh (l.take 1) then 1 else if wh (l.take 2) then 2 else if wh (l.take 3) then 3 else if wh (l.take 4) then 4 else 0
/-- Are bytes signs alone? -/
def vb : Nat → List Int → Bool
  | _, [] => true
  | 0, _ :: _ => false
  | n + 1, a :: t => if wlen (a :: t) = 0 then false else vb n ((a :: t).drop (wlen (a :: t)))
/-- Which. -/
def sg : Nat → List Int → List Int
  | _, [] => []
  | 0, _ :: _ => []
  | n + 1, a :: t => cp ((a :: t).take (wlen (a :: t))) :: sg n ((a :: t).drop (wlen (a :: t)))
theorem wh_nil : ¬ wh [] := id
theorem wlen_zero {l : List Int} (h : wlen l = 0) : ¬ wh (l.take 1) ∧ ¬ wh (l.take 2) ∧ ¬ wh (l.take 3) ∧ ¬ wh (l.take 4) := by
  unfold wlen at h
  by_cases h1 : wh (l.take 1)
  · rw [if_pos h1] at h; cases h
  · rw [if_neg h1] at h
    by_cases h2 : wh (l.take 2)
    · rw [if_pos h2] at h; cases h
    · rw [if_neg h2] at h
      by_cases h3 : wh (l.take 3)
      · rw [if_pos h3] at h; cases h
      · rw [if_neg h3] at h
        by_cases h4 : wh (l.take 4)
        · rw [if_pos h4] at h; cases h
        · exact ⟨h1, h2, h3, h4⟩
theorem wlen_pos {l : List Int} (h : wlen l ≠ 0) : wh (l.take (wlen l)) ∧ 1 ≤ wlen l ∧ wlen l ≤ 4 ∧ (l.take (wlen l)).length = wlen l := by
  have key : wh (l.take (wlen l)) ∧ 1 ≤ wlen l ∧ wlen l ≤ 4 ∧ (∀ k, 1 ≤ k → k < wlen l → ¬ wh (l.take k)) := by
    unfold wlen at h ⊢
    by_cases h1 : wh (l.take 1)
    · rw [if_pos h1]; exact ⟨h1, by omega, by omega, fun k a b => by omega⟩
    · rw [if_neg h1] at h ⊢
      by_cases h2 : wh (l.take 2)
      · rw [if_pos h2]
        exact ⟨h2, by omega, by omega, fun k a b => by obtain rfl : k = 1 := by omega
                                                       exact h1⟩
      · rw [if_neg h2] at h ⊢
        by_cases h3 : wh (l.take 3)
        · rw [if_pos h3]
          refine ⟨h3, by omega, by omega, fun k a b => ?_⟩
          rcases (show k = 1 ∨ k = 2 by omega) with rfl | rfl
          · exact h1
          · exact h2
        · rw [if_neg h3] at h ⊢
          by_cases h4 : wh (l.take 4)
          · rw [if_pos h4]
            refine ⟨h4, by omega, by omega, fun k a b => ?_⟩
            rcases (show k = 1 ∨ k = 2 ∨ k = 3 by omega) with rfl | rfl | rfl
            · exact h1
            · exact h2
            · exact h3
          · rw [if_neg h4] at h; exact absurd rfl h
  obtain ⟨k1, k2, k3, k4⟩ := key
  refine ⟨k1, k2, k3, ?_⟩
  rw [List.length_take]
  rcases Nat.lt_or_ge l.length (wlen l) with hlt | hge
  · exfalso
    have e : l.take (wlen l) = l := List.take_of_length_le (by omega)
    rw [e] at k1
    rcases Nat.eq_zero_or_pos l.length with h0 | hp
    · rw [List.length_eq_zero_iff.1 h0] at k1
      exact wh_nil k1
    · refine k4 l.length hp hlt ?_
      rw [List.take_length]
      exact k1
  · omega
theorem wlen_wh (x r : List Int) (h : wh x) : wlen (x ++ r) = x.length := by
  match x, h with
  | [a], h => unfold wlen; exact if_pos (show wh [a] from h)
  | [a, b], h =>
    have h' := (wh2_iff a b).1 h
    unfold wlen
    rw [if_neg (show ¬ wh (([a, b] ++ r).take 1) from fun q => by have : a < 128 := q; omega)]
    exact if_pos (show wh [a, b] from h)
  | [a, b, c], h =>
    have h' := (wh3_iff a b c).1 h
    unfold wlen
    rw [if_neg (show ¬ wh (([a, b, c] ++ r).take 1) from fun q => by have : a < 128 := q; omega), if_neg (show ¬ wh (([a, b, c] ++ r).take 2) from fun q => by have := (wh2_iff a b).1 q; omega)]
    exact if_pos (show wh [a, b, c] from h)
  | [a, b, c, d], h =>
    have h' := (wh4_iff a b c d).1 h
    unfold wlen
    rw [if_neg (show ¬ wh (([a, b, c, d] ++ r).take 1) from fun q => by have : a < 128 := q; omega), if_neg (show ¬ wh (([a, b, c, d] ++ r).take 2) from fun q => by have := (wh2_iff a b).1 q; omega), if_neg (show ¬ wh (([a, b, c, d] ++ r).take 3) from fun q => by have := (wh3_iff a b c).1 q; omega)]
    exact if_pos (show wh [a, b, c, d] from h)
theorem tells_whole (x r : List Int) (h : wh x) : tells [] (x ++ r) = cp x :: tells [] r := by
  match x, h with
  | [a], h =>
    show (refPut [] a).2 ++ tells (refPut [] a).1 r = _
    rw [refPut_whole (W := []) h]
    rfl
  | [a, b], h =>
    have h' := (wh2_iff a b).1 h
    have n1 : ¬ wh ([] ++ [a]) := fun q => by have : a < 128 := q; omega
    have b1 : beg ([] ++ [a]) := ⟨by omega, by omega⟩
    show (refPut [] a).2 ++ tells (refPut [] a).1 (b :: r) = _
    rw [refPut_beg n1 b1]
    show [] ++ ((refPut [a] b).2 ++ tells (refPut [a] b).1 r) = _
    rw [refPut_whole (W := [a]) h]
    rfl
  | [a, b, c], h =>
    have h' := (wh3_iff a b c).1 h
    have n1 : ¬ wh ([] ++ [a]) := fun q => by have : a < 128 := q; omega
    have b1 : beg ([] ++ [a]) := ⟨by omega, by omega⟩
    have n2 : ¬ wh ([a] ++ [b]) := fun q => by have := (wh2_iff a b).1 q; omega
    have b2 : beg ([a] ++ [b]) := .inl ⟨h'.1, h'.2.1, h'.2.2.1, h'.2.2.2.1⟩
    show (refPut [] a).2 ++ tells (refPut [] a).1 (b :: c :: r) = _
    rw [refPut_beg n1 b1]
    show [] ++ ((refPut [a] b).2 ++ tells (refPut [a] b).1 (c :: r)) = _
    rw [refPut_beg n2 b2]
    show [] ++ ([] ++ ((refPut [a, b] c).2 ++ tells (refPut [a, b] c).1 r)) = _
    rw [refPut_whole (W := [a, b]) h]
    rfl
  | [a, b, c, d], h =>
    have h' := (wh4_iff a b c d).1 h
    have n1 : ¬ wh ([] ++ [a]) := fun q => by have : a < 128 := q; omega
    have b1 : beg ([] ++ [a]) := ⟨by omega, by omega⟩
    have n2 : ¬ wh ([a] ++ [b]) := fun q => by have := (wh2_iff a b).1 q; omega
    have b2 : beg ([a] ++ [b]) := .inr ⟨h'.1, h'.2.1, h'.2.2.1, h'.2.2.2.1⟩
    have n3 : ¬ wh ([a, b] ++ [c]) := fun q => by have := (wh3_iff a b c).1 q; omega
    have b3 : beg ([a, b] ++ [c]) := ⟨h'.1, h'.2.1, h'.2.2.1, h'.2.2.2.1, h'.2.2.2.2.1, h'.2.2.2.2.2.1⟩
    show (refPut [] a).2 ++ tells (refPut [] a).1 (b :: c :: d :: r) = _
    rw [refPut_beg n1 b1]
    show [] ++ ((refPut [a] b).2 ++ tells (refPut [a] b).1 (c :: d :: r)) = _
    rw [refPut_beg n2 b2]
    show [] ++ ([] ++ ((refPut [a, b] c).2 ++ tells (refPut [a, b] c).1 (d :: r))) = _
    rw [refPut_beg n3 b3]
    show [] ++ ([] ++ ([] ++ ((refPut [a, b, c] d).2 ++ tells (refPut [a, b, c] d).1 r))) = _
    rw [refPut_whole (W := [a, b, c]) h]
    rfl
/-- A whole sign's bytes are those of its number. -/
theorem wh_enc (x : List Int) (hB : Bytes x) (h : wh x) : sign (cp x) ∧ enc (cp x) = x := by
  match x, h with
  | [a], h => exact (enc1 a (hB a (by simp))).2 h
  | [a, b], h => exact (enc2 a b (hB a (by simp)) (hB b (by simp))).2 h
  | [a, b, c], h => exact (enc3 a b c (hB a (by simp)) (hB b (by simp)) (hB c (by simp))).2 h
  | [a, b, c, d], h => exact (enc4 a b c d (hB a (by simp)) (hB b (by simp)) (hB c (by simp)) (hB d (by simp))).2 h
theorem vb_cons {n : Nat} {l : List Int} (hl : l ≠ []) : vb (n + 1) l = if wlen l = 0 then false else vb n (l.drop (wlen l)) := by
  cases l with
  | nil => exact absurd rfl hl
  | cons a t => rfl
theorem sg_cons {n : Nat} {l : List Int} (hl : l ≠ []) : sg (n + 1) l = cp (l.take (wlen l)) :: sg n (l.drop (wlen l)) := by
  cases l with
  | nil => exact absurd rfl hl
  | cons a t => rfl
theorem vb_all : ∀ (n : Nat) (l : List Int), l.length ≤ n → Bytes l → vb n l = true → tells [] l = sg n l ∧ (sg n l).flatMap enc = l ∧ (∀ c ∈ sg n l, sign c) := by
  intro n
  induction n with
  | zero =>
    intro l hl hB h
    obtain rfl := List.length_eq_zero_iff.1 (Nat.le_zero.1 hl)
    exact ⟨rfl, rfl, fun c hc => by simp [sg] at hc⟩
  | succ n ih =>
    intro l hl hB h
    by_cases e : l = []
    · subst e
      exact ⟨rfl, rfl, fun c hc => by simp [sg] at hc⟩
    · rw [vb_cons e] at h
      by_cases hw : wlen l = 0
      · rw [if_pos hw] at h; cases h
      · rw [if_neg hw] at h
        obtain ⟨k1, k2, k3, k4⟩ := wlen_pos hw
        have hBt : Bytes (l.take (wlen l)) := fun x hx => hB x (List.mem_of_mem_take hx)
        have hBd : Bytes (l.drop (wlen l)) := fun x hx => hB x (List.mem_of_mem_drop hx)
        obtain ⟨i1, i2, i3⟩ := ih _ (by rw [List.length_drop]; omega) hBd h
        obtain ⟨s1, s2⟩ := wh_enc _ hBt k1
        rw [sg_cons e]
        refine ⟨?_, ?_, ?_⟩
        · conv => lhs; rw [← List.take_append_drop (wlen l) l]
          rw [tells_whole _ _ k1, i1]
        · rw [List.flatMap_cons, s2, i2, List.take_append_drop]
        · intro c hc
          rcases List.mem_cons.1 hc with rfl | hc
          · exact s1
          · exact i3 c hc
theorem enc_ne (c : Int) : enc c ≠ [] := by
  unfold enc
  repeat' split
  all_goals simp
theorem vb_enc : ∀ (cs : List Int) (n : Nat), (∀ c ∈ cs, sign c) → (cs.flatMap enc).length ≤ n → vb n (cs.flatMap enc) = true ∧ sg n (cs.flatMap enc) = cs := by
  intro cs
  induction cs with
  | nil => intro n _ _; exact ⟨by cases n <;> rfl, by cases n <;> rfl⟩
  | cons c cs ih =>
    intro n hs hl
    rw [List.flatMap_cons] at hl ⊢
    have hc := hs c (by simp)
    obtain ⟨w1, w2⟩ := whenc c hc
    have hpos : 0 < (enc c).length := List.length_pos_iff.2 (enc_ne c)
    have hne : enc c ++ cs.flatMap enc ≠ [] := by simp [enc_ne c]
    rw [List.length_append] at hl
    obtain ⟨m, rfl⟩ : ∃ m, n = m + 1 := ⟨n - 1, by omega⟩
    have hw := wlen_wh (enc c) (cs.flatMap enc) w1
    obtain ⟨i1, i2⟩ := ih m (fun x hx => hs x (by simp [hx])) (by omega)
    rw [vb_cons hne, sg_cons hne, hw, if_neg (by omega), List.drop_left, List.take_left, w2]
    exact ⟨i1, by rw [i2]⟩
/-- Two texts of signs alone, one behind the other. -/
theorem vb_append {l r : List Int} (hl : Bytes l) (hr : Bytes r) (h1 : vb l.length l = true) (h2 : vb r.length r = true) : vb (l ++ r).length (l ++ r) = true ∧ sg (l ++ r).length (l ++ r) = sg l.length l ++ sg r.length r := by
  obtain ⟨_, a2, a3⟩ := vb_all _ l (Nat.le_refl _) hl h1
  obtain ⟨_, b2, b3⟩ := vb_all _ r (Nat.le_refl _) hr h2
  have e : l ++ r = (sg l.length l ++ sg r.length r).flatMap enc := by rw [List.flatMap_append, a2, b2]
  have := vb_enc (sg l.length l ++ sg r.length r) (l ++ r).length (fun c hc => (List.mem_append.1 hc).elim (a3 c) (b3 c)) (by rw [← e]; exact Nat.le_refl _)
  rw [← e] at this
  exact this

/-! ### the document's All and Valid; Text -/
theorem wlen_below {l : List Int} {k : Nat} (h1 : 1 ≤ k) (h2 : k < wlen l) : ¬ wh (l.take k) := by
  unfold wlen at h2
  by_cases c1 : wh (l.take 1)
  · rw [if_pos c1] at h2; omega
  · rw [if_neg c1] at h2
    by_cases c2 : wh (l.take 2)
    · rw [if_pos c2] at h2
      obtain rfl : k = 1 := by omega
      exact c1
    · rw [if_neg c2] at h2
      by_cases c3 : wh (l.take 3)
      · rw [if_pos c3] at h2
        rcases (show k = 1 ∨ k = 2 by omega) with rfl | rfl
        · exact c1
        · exact c2
      · rw [if_neg c3] at h2
        by_cases c4 : wh (l.take 4)
        · rw [if_pos c4] at h2
          rcases (show k = 1 ∨ k = 2 ∨ k = 3 by omega) with rfl | rfl | rfl
          · exact c1
          · exact c2
          · exact c3
        · rw [if_neg c4] at h2; omega
theorem refAll_l0 (l : List Int) (hl : l.length ≤ 1000000) (hB : Bytes l) : ∀ (d i : Nat) (W o : List Int), l.length - i = d → i ≤ l.length → (W = [] ∨ beg W) → Bytes W → o.length ≤ 2 * i → Ev (fun k => batonref08_All.l0 k l W o (i : Int)) (o ++ tells W (l.drop i)) := by
  intro d
  induction d with
  | zero =>
    intro i W o hd hi hW hBW ho
    obtain rfl : i = l.length := by omega
    apply ev_succ
    simp only [batonref08_All.l0, if_neg (show ¬ ((l.length : Int) < (l.length : Int)) by omega), List.drop_length, tells]
    by_cases c : W = []
    · subst c
      simp only [List.length_nil, if_true, List.append_nil]
      exact ev_some _
    · have hp : 0 < W.length := List.length_pos_iff.2 c
      simp only [if_pos (show (W.length : Int) > 0 by omega), if_pos (show o.length < 17592186044416 by omega), if_neg c]
      exact ev_some _
  | succ d ih =>
    intro i W o hd hi hW hBW ho
    have hlt : i < l.length := by omega
    have hw : wrap64 ((i : Int) + 1) = ((i + 1 : Nat) : Int) := by rw [w64 (by omega) (by omega)]; omega
    have hb := hB l[i] (List.getElem_mem hlt)
    have hp := refPut_len W l[i]
    obtain ⟨h1, h2⟩ := refPut_inv W hBW l[i] hb
    apply ev_succ
    simp only [batonref08_All.l0, if_pos (show (i : Int) < (l.length : Int) by omega), if_pos (show (0 : Int) ≤ (i : Int) by omega), rd_lt hlt]
    refine ev_bind (Put_ev W hBW (inv_len hW) l[i] hb) ?_
    simp only [if_pos (show o.length + (refPut W l[i]).2.length < 17592186044416 by omega), hw]
    refine ev_eq (ih (i + 1) _ _ (by omega) (by omega) h1 h2 (by rw [List.length_append]; omega)) ?_
    rw [List.drop_eq_getElem_cons hlt, tells, List.append_assoc]
theorem refAll_ev (l : List Int) (hl : l.length ≤ 1000000) (hB : Bytes l) : Ev (fun k => batonref08_All.f k l) (tells [] l) := by
  unfold batonref08_All.f
  have := refAll_l0 l hl hB l.length 0 [] [] (by omega) (by omega) (.inl rfl) (fun x hx => by simp at hx) (by simp)
  exact this
section
variable (l : List Int) (hl : l.length ≤ 1000000) (hB : Bytes l)
include hl hB
theorem refValid_l1 (pos n : Nat) (r : Bool) (hn : 1 ≤ n) (hpos : pos < l.length)
    (hstep : n ≤ 4 → pos + n ≤ l.length → ¬ wh ((l.drop pos).take n) → Ev (fun k => batonref08_Valid.l1 k l (pos : Int) ((n + 1 : Nat) : Int)) r)
    (hgo : n ≤ 4 → pos + n ≤ l.length → wh ((l.drop pos).take n) → Ev (fun k => batonref08_Valid.l0 k l ((pos + n : Nat) : Int)) r)
    (hend : (¬ n ≤ 4 ∨ ¬ pos + n ≤ l.length) → r = false) (hn5 : n ≤ 5) : Ev (fun k => batonref08_Valid.l1 k l (pos : Int) (n : Int)) r := by
  have hw : wrap64 ((pos : Int) + (n : Int)) = ((pos + n : Nat) : Int) := by rw [w64 (by omega) (by omega)]; omega
  have hw1 : wrap64 ((n : Int) + 1) = ((n + 1 : Nat) : Int) := by rw [w64 (by omega) (by omega)]; omega
  apply ev_succ
  simp only [batonref08_Valid.l1, hw, hw1]
  by_cases c1 : n ≤ 4
  · simp only [if_pos (show (n : Int) ≤ 4 by omega)]
    by_cases c2 : pos + n ≤ l.length
    · simp only [if_pos (show ((pos + n : Nat) : Int) ≤ (l.length : Int) by omega), if_pos (show (0 : Int) ≤ (pos : Int) by omega), if_pos (show (pos : Int) ≤ ((pos + n : Nat) : Int) by omega), Int.toNat_natCast]
      have ex : (l.take (pos + n)).drop pos = (l.drop pos).take n := by rw [List.drop_take, show pos + n - pos = n by omega]
      have hlen : ((l.drop pos).take n).length = n := by rw [List.length_take, List.length_drop]; omega
      have hBx : Bytes ((l.drop pos).take n) := fun x hx => hB x (List.mem_of_mem_drop (List.mem_of_mem_take hx))
      rw [ex]
      refine ev_bind (Whole_ev _ hBx (by omega) (by omega)) ?_
      by_cases c3 : wh ((l.drop pos).take n)
      · have hc := cp_nonneg _ hBx c3
        simp only [if_pos c3, if_neg (show ¬ cp ((l.drop pos).take n) < 0 by omega), if_neg (show ¬ ((n : Int) > 4) by omega), if_neg (show ¬ (((pos + n : Nat) : Int) > (l.length : Int)) by omega)]
        exact hgo c1 c2 c3
      · simp only [if_neg c3, if_pos (show (-1 : Int) < 0 by decide)]
        exact hstep c1 c2 c3
    · simp only [if_neg (show ¬ ((pos + n : Nat) : Int) ≤ (l.length : Int) by omega), if_neg (show ¬ ((n : Int) > 4) by omega), if_pos (show ((pos + n : Nat) : Int) > (l.length : Int) by omega)]
      rw [hend (.inr c2)]
      exact ev_some _
  · simp only [if_neg (show ¬ (n : Int) ≤ 4 by omega), if_pos (show (n : Int) > 4 by omega)]
    rw [hend (.inl c1)]
    exact ev_some _
theorem refValid_none (pos : Nat) (hpos : pos < l.length) (h0 : wlen (l.drop pos) = 0) : ∀ (d n : Nat), 5 - n = d → 1 ≤ n → n ≤ 5 → Ev (fun k => batonref08_Valid.l1 k l (pos : Int) (n : Int)) false := by
  obtain ⟨n1, n2, n3, n4⟩ := wlen_zero h0
  intro d
  induction d with
  | zero =>
    intro n hd h1 h5
    exact refValid_l1 l hl hB pos n false h1 hpos (fun h => by omega) (fun h => by omega) (fun _ => rfl) h5
  | succ d ih =>
    intro n hd h1 h5
    refine refValid_l1 l hl hB pos n false h1 hpos (fun _ _ _ => ih (n + 1) (by omega) (by omega) (by omega)) (fun h4 _ hw => ?_) (fun _ => rfl) h5
    rcases (show n = 1 ∨ n = 2 ∨ n = 3 ∨ n = 4 by omega) with rfl | rfl | rfl | rfl
    · exact absurd hw n1
    · exact absurd hw n2
    · exact absurd hw n3
    · exact absurd hw n4
theorem refValid_some (pos : Nat) (hpos : pos < l.length) (h0 : wlen (l.drop pos) ≠ 0) (r : Bool) (h : Ev (fun k => batonref08_Valid.l0 k l ((pos + wlen (l.drop pos) : Nat) : Int)) r) : ∀ (d n : Nat), wlen (l.drop pos) - n = d → 1 ≤ n → n ≤ wlen (l.drop pos) → Ev (fun k => batonref08_Valid.l1 k l (pos : Int) (n : Int)) r := by
  obtain ⟨k1, k2, k3, k4⟩ := wlen_pos h0
  rw [List.length_take, List.length_drop] at k4
  intro d
  induction d with
  | zero =>
    intro n hd h1 h5
    obtain rfl : n = wlen (l.drop pos) := by omega
    exact refValid_l1 l hl hB pos _ r h1 hpos (fun _ _ hn => absurd k1 hn) (fun _ _ _ => h) (fun hn => by omega) (by omega)
  | succ d ih =>
    intro n hd h1 h5
    exact refValid_l1 l hl hB pos n r h1 hpos (fun _ _ _ => ih (n + 1) (by omega) (by omega) (by omega)) (fun _ _ hw => absurd hw (wlen_below h1 (by omega))) (fun hn => by omega) (by omega)
theorem refValid_l0 : ∀ (m pos : Nat), pos ≤ l.length → l.length - pos ≤ m → Ev (fun k => batonref08_Valid.l0 k l (pos : Int)) (vb m (l.drop pos)) := by
  intro m
  induction m with
  | zero =>
    intro pos hp hm
    obtain rfl : pos = l.length := by omega
    apply ev_succ
    simp only [batonref08_Valid.l0, if_neg (show ¬ ((l.length : Int) < (l.length : Int)) by omega), List.drop_length]
    exact ev_some _
  | succ m ih =>
    intro pos hp hm
    by_cases hlt : pos < l.length
    · have hne : l.drop pos ≠ [] := by
        intro e
        have := congrArg List.length e
        rw [List.length_drop] at this
        simp at this
        omega
      apply ev_succ
      simp only [batonref08_Valid.l0, if_pos (show (pos : Int) < (l.length : Int) by omega)]
      rw [vb_cons hne]
      by_cases h0 : wlen (l.drop pos) = 0
      · rw [if_pos h0]
        exact refValid_none l hl hB pos hlt h0 4 1 rfl (by omega) (by omega)
      · rw [if_neg h0]
        obtain ⟨k1, k2, k3, k4⟩ := wlen_pos h0
        rw [List.length_take, List.length_drop] at k4
        refine refValid_some l hl hB pos hlt h0 _ ?_ (wlen (l.drop pos) - 1) 1 rfl (by omega) k2
        rw [List.drop_drop]
        exact ih (pos + wlen (l.drop pos)) (by omega) (by omega)
    · obtain rfl : pos = l.length := by omega
      apply ev_succ
      simp only [batonref08_Valid.l0, if_neg (show ¬ ((l.length : Int) < (l.length : Int)) by omega), List.drop_length]
      exact ev_some _
theorem refValid_ev : Ev (fun k => batonref08_Valid.f k l) (vb l.length l) := by
  have := refValid_l0 l hl hB l.length 0 (by omega) (by omega)
  exact this
end
theorem sign_of_refPut (W : List Int) (hW : Bytes W) (b : Int) (hb : 0 ≤ b ∧ b ≤ 255) : ∀ x ∈ (refPut W b).2, sign x := by
  have h1 : ∀ x ∈ (ref1 b).2, sign x := by
    intro x hx
    unfold ref1 at hx
    by_cases c : wh [b]
    · rw [if_pos c] at hx
      obtain rfl : x = b := by simpa using hx
      exact ((enc1 x hb).2 c).1
    · rw [if_neg c] at hx
      by_cases c2 : beg [b]
      · rw [if_pos c2] at hx; simp at hx
      · rw [if_neg c2] at hx
        obtain rfl : x = 65533 := by simpa using hx
        exact sign65533
  have hBb : Bytes (W ++ [b]) := fun x hx => (List.mem_append.1 hx).elim (hW x) (fun h => by rw [List.mem_singleton] at h; rw [h]; exact hb)
  by_cases c1 : wh (W ++ [b])
  · rw [refPut_whole c1]
    intro x hx
    obtain rfl : x = cp (W ++ [b]) := by simpa using hx
    exact (wh_enc _ hBb c1).1
  · by_cases c2 : beg (W ++ [b])
    · rw [refPut_beg c1 c2]
      intro x hx
      simp at hx
    · by_cases c3 : W = []
      · subst c3
        rw [refPut_nil]
        exact h1
      · rw [refPut_bad c3 c1 c2]
        intro x hx
        rcases List.mem_cons.1 hx with rfl | hx
        · exact sign65533
        · exact h1 x hx
theorem tells_sign : ∀ (l W : List Int), Bytes W → Bytes l → ∀ x ∈ tells W l, sign x := by
  intro l
  induction l with
  | nil =>
    intro W _ _ x hx
    unfold tells at hx
    split at hx
    · simp at hx
    · obtain rfl : x = 65533 := by simpa using hx
      exact sign65533
  | cons b l ih =>
    intro W hW hl x hx
    have hb := hl b (by simp)
    rcases List.mem_append.1 hx with h | h
    · exact sign_of_refPut W hW b hb x h
    · exact ih _ (refPut_inv W hW b hb).2 (fun y hy => hl y (by simp [hy])) x h
theorem tells_length : ∀ (l W : List Int), (tells W l).length ≤ 2 * l.length + 1 := by
  intro l
  induction l with
  | nil => intro W; unfold tells; split <;> simp
  | cons b l ih =>
    intro W
    show ((refPut W b).2 ++ tells (refPut W b).1 l).length ≤ _
    have := refPut_len W b
    have := ih (refPut W b).1
    rw [List.length_append, List.length_cons]
    omega
theorem Text_l0 (l : List Int) (hl : l.length ≤ 1000000) : ∀ (d i : Nat) (o : List Int), l.length - i = d → i ≤ l.length → o.length ≤ 4 * i → Ev (fun k => runes_Text.l0 k o l (l.length : Int) (i : Int)) (strOfNums (o ++ (l.drop i).flatMap enc')) := by
  intro d
  induction d with
  | zero =>
    intro i o hd hi ho
    obtain rfl : i = l.length := by omega
    apply ev_succ
    simp only [runes_Text.l0, if_neg (show ¬ ((l.length : Int) < (l.length : Int)) by omega), List.drop_length, List.flatMap_nil, List.append_nil]
    exact ev_some _
  | succ d ih =>
    intro i o hd hi ho
    have hlt : i < l.length := by omega
    have hw : wrap64 ((i : Int) + 1) = ((i + 1 : Nat) : Int) := by rw [w64 (by omega) (by omega)]; omega
    have he := enc'_len l[i]
    apply ev_succ
    simp only [runes_Text.l0, if_pos (show (i : Int) < (l.length : Int) by omega), if_pos (show (0 : Int) ≤ (i : Int) by omega), rd_lt hlt, RBytes_f, Option.bind_some, if_pos (show o.length + (enc' l[i]).length < 140737488355328 by omega), hw]
    refine ev_eq (ih (i + 1) _ (by omega) (by omega) (by rw [List.length_append]; omega)) ?_
    rw [List.drop_eq_getElem_cons hlt, List.flatMap_cons, List.append_assoc]
theorem Text_ev (l : List Int) (hl : l.length ≤ 1000000) : Ev (fun k => runes_Text.f k l) (strOfNums (l.flatMap enc')) := by
  unfold runes_Text.f
  have := Text_l0 l hl l.length 0 [] (by omega) (by omega) (by simp)
  exact this
theorem flatMap_enc' {l : List Int} (h : ∀ x ∈ l, sign x) : l.flatMap enc' = l.flatMap enc := by
  induction l with
  | nil => rfl
  | cons c l ih =>
    rw [List.flatMap_cons, List.flatMap_cons, ih (fun x hx => h x (by simp [hx]))]
    unfold enc'
    rw [if_pos (h c (by simp))]

end Go.Proofs.Ytkckojgjkmcokaa.LF08T
