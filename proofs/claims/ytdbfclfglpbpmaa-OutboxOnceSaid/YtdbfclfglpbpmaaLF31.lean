/- Plain lemmas on the functions of this family (OutboxOnce): what each loop comes to. No condition. -/
import Derived.Test.YtdbfclfglpbpmaaBase
import Derived.Test.YtdbfclfglpbpmaaPF31x
namespace Go.Proofs.Ytdbfclfglpbpmaa.LF31
open Go.RowKit Go.Proofs.Ytdbfclfglpbpmaa.Base Go.Proofs.YtdbfclfglpbpmaaW.PrintWords Go.Proofs.YtdbfclfglpbpmaaW.PrintMore Go.Proofs.Ytdbfclfglpbpmaa.PF31
set_option linter.unusedVariables false
set_option linter.unusedSimpArgs false

/-! ### batonref01 -/
theorem Same_l0 (a b : List Int) (h : a.length = b.length) (hl : a.length ≤ 9000000000000000000) : ∀ (d i : Nat), a.length - i = d → i ≤ a.length → Ev (fun k => batonref01_Same.l0 k a b (i : Int)) (decide (a.drop i = b.drop i)) := by
  intro d
  induction d with
  | zero =>
    intro i hd hi
    obtain rfl : i = a.length := by omega
    apply ev_succ
    simp only [batonref01_Same.l0, if_neg (show ¬ ((a.length : Int) < (a.length : Int)) by omega)]
    exact ev_eq (ev_some _) (by simp [h])
  | succ d ih =>
    intro i hd hi
    have hlt : i < a.length := by omega
    have hltb : i < b.length := by omega
    have hw : wrap64 ((i : Int) + 1) = ((i + 1 : Nat) : Int) := by rw [w64 (by omega) (by omega)]; omega
    apply ev_succ
    simp only [batonref01_Same.l0, if_pos (show (i : Int) < (a.length : Int) by omega), if_pos (show (0 : Int) ≤ (i : Int) by omega), if_pos (show (i : Int) < (b.length : Int) by omega), rd_lt hlt, rd_lt hltb, hw]
    have key : (a.drop i = b.drop i) ↔ (a[i] = b[i] ∧ a.drop (i + 1) = b.drop (i + 1)) := by
      rw [List.drop_eq_getElem_cons hlt, List.drop_eq_getElem_cons hltb]
      exact List.cons_eq_cons
    by_cases e : a[i] = b[i]
    · simp only [if_pos e]
      refine ev_eq (ih (i + 1) (by omega) (by omega)) ?_
      simp only [key, e, true_and]
    · simp only [if_neg e]
      refine ev_eq (ev_some _) ?_
      simp only [key, e, false_and, decide_false]
theorem Same_ev (a b : List Int) (hl : a.length ≤ 9000000000000000000) : Ev (fun k => batonref01_Same.f k a b) (decide (a = b)) := by
  unfold batonref01_Same.f
  by_cases h : a.length = b.length
  · simp only [if_pos (show (a.length : Int) = (b.length : Int) by omega)]
    exact ev_eq (Same_l0 a b h hl a.length 0 (by omega) (by omega)) (by simp)
  · simp only [if_neg (show ¬ ((a.length : Int) = (b.length : Int)) by omega)]
    exact ev_eq (ev_some _) (by simp; intro e; exact h (by rw [e]))

/-! ### slices.Concat of two -/
theorem Concat2 (a b : List Int) (ha : a.length ≤ 1000000000000) (hb : b.length ≤ 1000000000000) : Ev (fun k => slices_Concat_byte_byte.f k [a, b]) (a ++ b) := by
  unfold slices_Concat_byte_byte.f
  have r0 : rd_L1 [a, b] 0 = a := rfl
  have r1 : rd_L1 [a, b] 1 = b := rfl
  have n2 : (([a, b] : List (List Int)).length : Int) = 2 := rfl
  have e1 : wrap64 (0 + (a.length : Int)) = (a.length : Int) := by rw [w64 (by omega) (by omega)]; omega
  have e2 : wrap64 ((a.length : Int) + (b.length : Int)) = (a.length : Int) + (b.length : Int) := w64 (by omega) (by omega)
  have e3 : wrap64 (0 + 1) = 1 := by rw [w64 (by omega) (by omega)]; omega
  have e4 : wrap64 (1 + 1) = 2 := by rw [w64 (by omega) (by omega)]; omega
  rw [n2]
  apply ev_succ
  simp only [slices_Concat_byte_byte.l0, n2, r0, e1, e3, if_pos (show (0 : Int) < 2 by decide), if_pos (show (0 : Int) ≤ 0 by decide), if_neg (show ¬ (a.length : Int) < 0 by omega)]
  apply ev_succ
  simp only [slices_Concat_byte_byte.l0, n2, r1, e2, e4, if_pos (show (1 : Int) < 2 by decide), if_pos (show (0 : Int) ≤ 1 by decide), if_neg (show ¬ (a.length : Int) + (b.length : Int) < 0 by omega)]
  apply ev_succ
  simp only [slices_Concat_byte_byte.l0, n2, if_neg (show ¬ (2 : Int) < 2 by decide), slices_Grow_byte_byte.f, if_pos (show 0 ≤ (a.length : Int) + (b.length : Int) ∧ (a.length : Int) + (b.length : Int) ≤ 140737488355327 by omega), Option.bind_some]
  apply ev_succ
  simp only [slices_Concat_byte_byte.l1, n2, r0, e3, if_pos (show (0 : Int) < 2 by decide), if_pos (show (0 : Int) ≤ 0 by decide), List.nil_append, if_pos (show ([] : List Int).length + a.length < 140737488355328 by simp; omega)]
  apply ev_succ
  simp only [slices_Concat_byte_byte.l1, n2, r1, e4, if_pos (show (1 : Int) < 2 by decide), if_pos (show (0 : Int) ≤ 1 by decide), if_pos (show a.length + b.length < 140737488355328 by omega)]
  apply ev_succ
  simp only [slices_Concat_byte_byte.l1, n2, if_neg (show ¬ (2 : Int) < 2 by decide)]
  exact ev_some _

/-! ### outbox -/
theorem awake31 : Ev (fun k => batonlaw31_awake.f k) true := Ev.of (fun k => batonlaw31_awake.mono k) (k := 40) (by decide +kernel)
/-- Ack, of a box whose numbers are small. -/
theorem Ack_at (f : Int) (b : List Int) (n : Int) (h0 : 0 ≤ f) (h1 : f ≤ 281474976710656) (hb : b.length ≤ 1000000) :
    outbox_Ack.f f b n = some (if n > f + (b.length : Int) then (f, b, 20) else if n ≤ f then (f, b, 0) else (n, b.drop (n - f).toNat, 0)) := by
  have e1 : wrap64 (f + (b.length : Int)) = f + (b.length : Int) := w64 (by omega) (by omega)
  simp only [outbox_Ack.f, outbox_Next.f, e1, Option.bind_some]
  by_cases c1 : n > f + (b.length : Int)
  · rw [if_pos c1, if_pos c1]
  · by_cases c2 : n ≤ f
    · rw [if_neg c1, if_pos c2, if_neg c1, if_pos c2]
    · have e2 : wrap64 (n - f) = n - f := w64 (by omega) (by omega)
      rw [if_neg c1, if_neg c2, if_neg c1, if_neg c2, e2, if_pos (show 0 ≤ n - f by omega), if_pos (show n - f ≤ (b.length : Int) by omega)]
      simp only [slices_Clone_byte_byte.f]
      rw [if_pos (show (b.drop (n - f).toNat).length < 140737488355328 by rw [List.length_drop]; omega)]
      rfl
/-- Put, of a box whose numbers are small. -/
theorem Put_at (f : Int) (b d : List Int) (h0 : 0 ≤ f) (h1 : f ≤ 281474976710656) (hb : b.length ≤ 1000000) (hd : d.length ≤ 1000000) :
    Ev (fun k => outbox_Put.f k f b d) (if (b.length : Int) + (d.length : Int) > 256 then (f, b, 2) else if f + (b.length : Int) + (d.length : Int) > 281474976710656 then (f, b, 16) else (f, b ++ d, 0)) := by
  have e1 : wrap64 (f + (b.length : Int)) = f + (b.length : Int) := w64 (by omega) (by omega)
  have e2 : wrap64 (256 - (b.length : Int)) = 256 - (b.length : Int) := w64 (by omega) (by omega)
  have e3 : wrap64 (281474976710656 - (f + (b.length : Int))) = 281474976710656 - (f + (b.length : Int)) := w64 (by omega) (by omega)
  simp only [outbox_Put.f, outbox_Next.f, e1, e2, e3, Option.bind_some]
  by_cases c1 : (b.length : Int) + (d.length : Int) > 256
  · rw [if_pos c1]
    simp only [if_pos (show (d.length : Int) > 256 - (b.length : Int) by omega)]
    exact ev_some _
  · by_cases c2 : f + (b.length : Int) + (d.length : Int) > 281474976710656
    · rw [if_neg c1, if_pos c2]
      simp only [if_neg (show ¬ (d.length : Int) > 256 - (b.length : Int) by omega), if_pos (show (d.length : Int) > 281474976710656 - (f + (b.length : Int)) by omega)]
      exact ev_some _
    · rw [if_neg c1, if_neg c2]
      simp only [if_neg (show ¬ (d.length : Int) > 256 - (b.length : Int) by omega), if_neg (show ¬ (d.length : Int) > 281474976710656 - (f + (b.length : Int)) by omega)]
      exact ev_bind (Concat2 b d (by omega) (by omega)) (ev_some _)

end Go.Proofs.Ytdbfclfglpbpmaa.LF31
