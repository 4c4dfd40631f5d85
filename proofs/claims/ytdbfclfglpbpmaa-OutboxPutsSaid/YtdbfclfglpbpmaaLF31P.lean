/- Plain lemmas on the functions of this family (OutboxPuts): what each loop comes to. No condition. -/
import Derived.Test.YtdbfclfglpbpmaaBase
import Derived.Test.YtdbfclfglpbpmaaPF31Px
namespace Go.Proofs.Ytdbfclfglpbpmaa.LF31P
open Go.RowKit Go.Proofs.Ytdbfclfglpbpmaa.Base Go.Proofs.YtdbfclfglpbpmaaW.PrintWords Go.Proofs.YtdbfclfglpbpmaaW.PrintMore Go.Proofs.Ytdbfclfglpbpmaa.PF31P
set_option linter.unusedVariables false
set_option linter.unusedSimpArgs false

/-! ### slices.Concat of two -/
theorem Concat2 (a b : List Int) (ha : a.length ≤ 1000000000000) (hb : b.length ≤ 1000000000000) : Ev (fun k => slices_Concat_byte_byte.f k [a, b]) (a ++ b) := by
  unfold slices_Concat_byte_byte.f
  have r0 : rd_L1 [a, b] 0 = a := rfl
  have r1 : rd_L1 [a, b] 1 = b := rfl
  have n2 : (([a, b] : List (List Int)).length : Int) = 2 := rfl
  have e1 : wrap64 (0 + (a.length : Int)) = (a.length : Int) := by rw [w64 (by omega) (by omega)]; omega
  have e2 : wrap64 ((a.length : Int) + (b.length : Int)) = (a.length : Int) + (b.length : Int) := w64 (by omega) (by omega)
  have e3 : wrap64 (0 + 1) = 1 := by rw [w64 (by omega) (by omega)]; omega
  have e4 : wrap64 (1 + 1) = 2 := by rw [w64 (by omega) (by omega)]; omega
  rw [n2]
  apply ev_succ
  simp only [slices_Concat_byte_byte.l0, n2, r0, e1, e3, if_pos (show (0 : Int) < 2 by decide), if_pos (show (0 : Int) ≤ 0 by decide), if_neg (show ¬ (a.length : Int) < 0 by omega)]
  apply ev_succ
  simp only [slices_Concat_byte_byte.l0, n2, r1, e2, e4, if_pos (show (1 : Int) < 2 by decide), if_pos (show (0 : Int) ≤ 1 by decide), if_neg (show ¬ (a.length : Int) + (b.length : Int) < 0 by omega)]
  apply ev_succ
  simp only [slices_Concat_byte_byte.l0, n2, if_neg (show ¬ (2 : Int) < 2 by decide), slices_Grow_byte_byte.f, if_pos (show 0 ≤ (a.length : Int) + (b.length : Int) ∧ (a.length : Int) + (b.length : Int) ≤ 140737488355327 by omega), Option.bind_some]
  apply ev_succ
  simp only [slices_Concat_byte_byte.l1, n2, r0, e3, if_pos (show (0 : Int) < 2 by decide), if_pos (show (0 : Int) ≤ 0 by decide), List.nil_append, if_pos (show ([] : List Int).length + a.length < 140737488355328 by simp; omega)]
  apply ev_succ
  simp only [slices_Concat_byte_byte.l1, n2, r1, e4, if_pos (show (1 : Int) < 2 by decide), if_pos (show (0 : Int) ≤ 1 by decide), if_pos (show a.length + b.length < 140737488355328 by omega)]
  apply ev_succ
  simp only [slices_Concat_byte_byte.l1, n2, if_neg (show ¬ (2 : Int) < 2 by decide)]
  exact ev_some _

/-! ### outbox -/
theorem awake31 : Ev (fun k => batonlaw31_awake.f k) true := Ev.of (fun k => batonlaw31_awake.mono k) (k := 40) (by decide +kernel)
/-- Ack, of a box whose numbers are small. -/
theorem Ack_at (f : Int) (b : List Int) (n : Int) (h0 : 0 ≤ f) (h1 : f ≤ 281474976710656) (hb : b.length ≤ 1000000) :
    outbox_Ack.f f b n = some (if n > f + (b.length : Int) then (f, b, 20) else if n ≤ f then (f, b, 0) else (n, b.drop (n - f).toNat, 0)) := by
  have e1 : wrap64 (f + (b.length : Int)) = f + (b.length : Int) := w64 (by omega) (by omega)
  simp only [outbox_Ack.f, outbox_Next.f, e1, Option.bind_some]
  by_cases c1 : n > f + (b.length : Int)
  · rw [if_pos c1, if_pos c1]
  · by_cases c2 : n ≤ f
    · rw [if_neg c1, if_pos c2, if_neg c1, if_pos c2]
    · have e2 : wrap64 (n - f) = n - f := w64 (by omega) (by omega)
      rw [if_neg c1, if_neg c2, if_neg c1, if_neg c2, e2, if_pos (show 0 ≤ n - f by omega), if_pos (show n - f ≤ (b.length : Int) by omega)]
      simp only [slices_Clone_byte_byte.f]
      rw [if_pos (show (b.drop (n - f).toNat).length < 140737488355328 by rw [List.length_drop]; omega)]
      rfl
/-- Put, of a box whose numbers are small. -/
theorem Put_at (f : Int) (b d : List Int) (h0 : 0 ≤ f) (h1 : f ≤ 281474976710656) (hb : b.length ≤ 1000000) (hd : d.length ≤ 1000000) :
    Ev (fun k => outbox_Put.f k f b d) (if (b.length : Int) + (d.length : Int) > 256 then (f, b, 2) else if f + (b.length : Int) + (d.length : Int) > 281474976710656 then (f, b, 16) else (f, b ++ d, 0)) := by
  have e1 : wrap64 (f + (b.length : Int)) = f + (b.length : Int) := w64 (by omega) (by omega)
  have e2 : wrap64 (256 - (b.length : Int)) = 256 - (b.length : Int) := w64 (by omega) (by omega)
  have e3 : wrap64 (281474976710656 - (f + (b.length : Int))) = 281474976710656 - (f + (b.length : Int)) := w64 (by omega) (by omega)
  simp only [outbox_Put.f, outbox_Next.f, e1, e2, e3, Option.bind_some]
  by_cases c1 : (b.length : Int) + (d.length : Int) > 256
  · rw [if_pos c1]
    simp only [if_pos (show (d.length : Int) > 256 - (b.length : Int) by omega)]
    exact ev_some _
  · by_cases c2 : f + (b.length : Int) + (d.length : Int) > 281474976710656
    · rw [if_neg c1, if_pos c2]
      simp only [if_neg (show ¬ (d.length : Int) > 256 - (b.length : Int) by omega), if_pos (show (d.length : Int) > 281474976710656 - (f + (b.length : Int)) by omega)]
      exact ev_some _
    · rw [if_neg c1, if_neg c2]
      simp only [if_neg (show ¬ (d.length : Int) > 256 - (b.length : Int) by omega), if_neg (show ¬ (d.length : Int) > 281474976710656 - (f + (b.length : Int)) by omega)]
      exact ev_bind (Concat2 b d (by omega) (by omega)) (ev_some _)

theorem rd140 (l : List S140) (i : Nat) (h : i < l.length) : rd_T140 l (i : Int) = l[i] := by
  unfold rd_T140
  simp [List.getD_eq_getElem?_getD, h]
def keysL (f : Int) : List Int → List S140
  | [] => []
  | x :: b => ⟨f, x⟩ :: keysL (f + 1) b
theorem keysL_len (f : Int) (b : List Int) : (keysL f b).length = b.length := by
  induction b generalizing f with
  | nil => rfl
  | cons x b ih => simp [keysL, ih]
theorem keysL_get (b : List Int) : ∀ (f : Int) (i : Nat) (h : i < b.length), (keysL f b)[i]'(by rw [keysL_len]; exact h) = ⟨f + (i : Int), b[i]⟩ := by
  induction b with
  | nil => intro f i h; simp at h
  | cons x b ih =>
    intro f i h
    cases i with
    | zero => simp [keysL]
    | succ i =>
      simp only [keysL, List.getElem_cons_succ]
      rw [ih (f + 1) i (by simpa using h)]
      simp only [S140.mk.injEq, and_true]
      omega
theorem Keys_l0 (f : Int) (b : List Int) (h0 : 0 ≤ f) (h1 : f ≤ 281474976710656) (hl : b.length ≤ 1000000) : ∀ (d i : Nat), b.length - i = d → i ≤ b.length → Ev (fun k => batonref31_Keys.l0 k f b ((keysL f b).take i) (i : Int)) (keysL f b) := by
  intro d
  induction d with
  | zero =>
    intro i hd hi
    obtain rfl : i = b.length := by omega
    apply ev_succ
    simp only [batonref31_Keys.l0, if_neg (show ¬ ((b.length : Int) < (b.length : Int)) by omega)]
    rw [List.take_of_length_le (by rw [keysL_len]; exact Nat.le_refl _)]
    exact ev_some _
  | succ d ih =>
    intro i hd hi
    have hlt : i < b.length := by omega
    have hlt' : i < (keysL f b).length := by rw [keysL_len]; exact hlt
    have hw : wrap64 ((i : Int) + 1) = ((i + 1 : Nat) : Int) := by rw [w64 (by omega) (by omega)]; omega
    have hw2 : wrap64 (f + (i : Int)) = f + (i : Int) := w64 (by omega) (by omega)
    have e : (keysL f b).take i ++ [(⟨f + (i : Int), b[i]⟩ : S140)] = (keysL f b).take (i + 1) := by rw [List.take_succ_eq_append_getElem hlt', keysL_get b f i hlt]
    apply ev_succ
    simp only [batonref31_Keys.l0, if_pos (show (i : Int) < (b.length : Int) by omega), if_pos (show (0 : Int) ≤ (i : Int) by omega), rd_lt hlt, hw, hw2, if_pos (show ((keysL f b).take i).length < 8796093022208 by rw [List.length_take, keysL_len]; omega), e]
    exact ih (i + 1) (by omega) (by omega)
theorem keys_ev (f : Int) (b : List Int) (h0 : 0 ≤ f) (h1 : f ≤ 281474976710656) (hl : b.length ≤ 1000000) : Ev (fun k => batonlaw31_keys.f k f b) (keysL f b) := by
  unfold batonlaw31_keys.f
  refine ev_bind (a := keysL f b) ?_ (ev_some _)
  unfold batonref31_Keys.f
  exact Keys_l0 f b h0 h1 hl b.length 0 (by omega) (by omega)
theorem SameK_l0 (l : List S140) (hl : l.length ≤ 1000000) : ∀ (d i : Nat), l.length - i = d → i ≤ l.length → Ev (fun k => batonref31_Same.l0 k l l (i : Int)) true := by
  intro d
  induction d with
  | zero =>
    intro i hd hi
    obtain rfl : i = l.length := by omega
    apply ev_succ
    simp only [batonref31_Same.l0, if_neg (show ¬ ((l.length : Int) < (l.length : Int)) by omega)]
    exact ev_some _
  | succ d ih =>
    intro i hd hi
    have hlt : i < l.length := by omega
    have hw : wrap64 ((i : Int) + 1) = ((i + 1 : Nat) : Int) := by rw [w64 (by omega) (by omega)]; omega
    apply ev_succ
    simp only [batonref31_Same.l0, if_pos (show (i : Int) < (l.length : Int) by omega), if_pos (show (0 : Int) ≤ (i : Int) by omega), hw, beq_self_eq_true, Bool.not_true, Bool.or_self, Bool.false_eq_true, if_false]
    exact ih (i + 1) (by omega) (by omega)
theorem SameK_ev (l : List S140) (hl : l.length ≤ 1000000) : Ev (fun k => batonref31_Same.f k l l) true := by
  simp only [batonref31_Same.f, if_true]
  exact SameK_l0 l hl l.length 0 (by omega) (by omega)

end Go.Proofs.Ytdbfclfglpbpmaa.LF31P
