/- Plain lemmas on the functions of this family (DiskPlays, DiskKeeps): what each loop comes to. No condition. -/
import Derived.Test.YtdbfclfglpbpmaaBase
import Derived.Test.YtdbfclfglpbpmaaPF21x
namespace Go.Proofs.Ytdbfclfglpbpmaa.LF21
open Go.RowKit Go.Proofs.Ytdbfclfglpbpmaa.Base Go.Proofs.YtdbfclfglpbpmaaW.PrintWords Go.Proofs.YtdbfclfglpbpmaaW.PrintMore Go.Proofs.Ytdbfclfglpbpmaa.PF21
set_option linter.unusedVariables false
set_option linter.unusedSimpArgs false

/-! ### batonref01 -/
theorem Same_l0 (a b : List Int) (h : a.length = b.length) (hl : a.length ≤ 9000000000000000000) : ∀ (d i : Nat), a.length - i = d → i ≤ a.length → Ev (fun k => batonref01_Same.l0 k a b (i : Int)) (decide (a.drop i = b.drop i)) := by
  intro d
  induction d with
  | zero =>
    intro i hd hi
    obtain rfl : i = a.length := by omega
    apply ev_succ
    simp only [batonref01_Same.l0, if_neg (show ¬ ((a.length : Int) < (a.length : Int)) by omega)]
    exact ev_eq (ev_some _) (by simp [h])
  | succ d ih =>
    intro i hd hi
    have hlt : i < a.length := by omega
    have hltb : i < b.length := by omega
    have hw : wrap64 ((i : Int) + 1) = ((i + 1 : Nat) : Int) := by rw [w64 (by omega) (by omega)]; omega
    apply ev_succ
    simp only [batonref01_Same.l0, if_pos (show (i : Int) < (a.length : Int) by omega), if_pos (show (0 : Int) ≤ (i : Int) by omega), if_pos (show (i : Int) < (b.length : Int) by omega), rd_lt hlt, rd_lt hltb, hw]
    have key : (a.drop i = b.drop i) ↔ (a[i] = b[i] ∧ a.drop (i + 1) = b.drop (i + 1)) := by
      rw [List.drop_eq_getElem_cons hlt, List.drop_eq_getElem_cons hltb]
      exact List.cons_eq_cons
    by_cases e : a[i] = b[i]
    · simp only [if_pos e]
      refine ev_eq (ih (i + 1) (by omega) (by omega)) ?_
      simp only [key, e, true_and]
    · simp only [if_neg e]
      refine ev_eq (ev_some _) ?_
      simp only [key, e, false_and, decide_false]
theorem Same_ev (a b : List Int) (hl : a.length ≤ 9000000000000000000) : Ev (fun k => batonref01_Same.f k a b) (decide (a = b)) := by
  unfold batonref01_Same.f
  by_cases h : a.length = b.length
  · simp only [if_pos (show (a.length : Int) = (b.length : Int) by omega)]
    exact ev_eq (Same_l0 a b h hl a.length 0 (by omega) (by omega)) (by simp)
  · simp only [if_neg (show ¬ ((a.length : Int) = (b.length : Int)) by omega)]
    exact ev_eq (ev_some _) (by simp; intro e; exact h (by rw [e]))

end Go.Proofs.Ytdbfclfglpbpmaa.LF21
