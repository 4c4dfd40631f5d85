/- The law RosterOnce, of plain lists: of any requests of one device those rise that are accepted, and no greater one is refused. No condition beside the sizes that the row itself gives. -/
import Derived.Test.YtdbfclfglpbpmaaLF25O
namespace Go.Proofs.Ytdbfclfglpbpmaa.Pure
open Go.RowKit Go.Proofs.Ytdbfclfglpbpmaa.Base Go.Proofs.YtdbfclfglpbpmaaW.PrintWords Go.Proofs.YtdbfclfglpbpmaaW.PrintMore Go.Proofs.Ytdbfclfglpbpmaa.PF25O
set_option linter.unusedVariables false
set_option linter.unusedSimpArgs false
open Go.Proofs.Ytdbfclfglpbpmaa.LF25O

theorem awake25 : Ev (fun k => batonlaw25_awake.f k) true := Ev.of (fun k => batonlaw25_awake.mono k) (k := 10) (by decide +kernel)
theorem Once_l0 (l : List Int) (hl : l.length ≤ 1000000) : ∀ (d i : Nat) (last : Int), l.length - i = d → i ≤ l.length → Ev (fun k => batonlaw25_RosterOnce.l0 k l [⟨5, 1, false, last⟩] last (i : Int)) true := by
  intro d
  induction d with
  | zero =>
    intro i last hd hi
    obtain rfl : i = l.length := by omega
    apply ev_succ
    simp only [batonlaw25_RosterOnce.l0, if_neg (show ¬ ((l.length : Int) < (l.length : Int)) by omega), Find_one, Option.bind_some, if_true, beq_self_eq_true]
    exact ev_some _
  | succ d ih =>
    intro i last hd hi
    have hw : wrap64 ((i : Int) + 1) = ((i + 1 : Nat) : Int) := by rw [w64 (by omega) (by omega)]; omega
    apply ev_succ
    simp only [batonlaw25_RosterOnce.l0, if_pos (show (i : Int) < (l.length : Int) by omega), if_pos (show (0 : Int) ≤ (i : Int) by omega), Accept_one, Option.bind_some]
    by_cases c1 : rd l (i : Int) > last
    · by_cases c2 : rd l (i : Int) > 281474976710656
      · simp only [if_pos c1, if_pos (show rd l (i : Int) ≤ last ∨ rd l (i : Int) > 281474976710656 from .inr c2), decide_eq_false (show ¬ rd l (i : Int) ≤ 281474976710656 by omega)]
        apply ev_succ
        simp only [batonlaw25_RosterOnce.j1, show ((20 : Int) == 0) = false from rfl, bne_self_eq_false, Bool.false_eq_true, if_false, if_neg (show ¬ (20 : Int) = 0 by decide), hw]
        exact ih (i + 1) last (by omega) (by omega)
      · simp only [if_pos c1, if_neg (show ¬ (rd l (i : Int) ≤ last ∨ rd l (i : Int) > 281474976710656) by omega), decide_eq_true (show rd l (i : Int) ≤ 281474976710656 by omega)]
        apply ev_succ
        simp only [batonlaw25_RosterOnce.j1, show ((0 : Int) == 0) = true from rfl, bne_self_eq_false, Bool.false_eq_true, if_false, if_true, if_pos (show (0 : Int) ≤ (i : Int) by omega), if_pos (show (i : Int) < (l.length : Int) by omega), hw]
        exact ih (i + 1) (rd l (i : Int)) (by omega) (by omega)
    · simp only [if_neg c1, if_pos (show rd l (i : Int) ≤ last ∨ rd l (i : Int) > 281474976710656 from .inl (by omega))]
      apply ev_succ
      simp only [batonlaw25_RosterOnce.j1, show ((20 : Int) == 0) = false from rfl, bne_self_eq_false, Bool.false_eq_true, if_false, if_neg (show ¬ (20 : Int) = 0 by decide), hw]
      exact ih (i + 1) last (by omega) (by omega)
theorem RosterOnce : batonlaw25_RosterOnce.Pure := by
  intro l _ _ _
  refine Ev.rounds ?_
  unfold batonlaw25_RosterOnce.f
  refine ev_bind awake25 ?_
  simp only [if_true]
  by_cases c : (l.length : Int) > 50
  · simp only [if_pos c]
    exact ev_some _
  · simp only [if_neg c]
    refine ev_bind (Enrol_nil 5 (by decide) (by decide)) ?_
    simp only [if_true]
    exact Once_l0 l (by omega) l.length 0 0 (by omega) (by omega)

end Go.Proofs.Ytdbfclfglpbpmaa.Pure
