/- Plain lemmas on the functions of this family (RosterOnce): what each loop comes to. No condition. -/
import Derived.Test.YtdbfclfglpbpmaaBase
import Derived.Test.YtdbfclfglpbpmaaPF25Ox
namespace Go.Proofs.Ytdbfclfglpbpmaa.LF25O
open Go.RowKit Go.Proofs.Ytdbfclfglpbpmaa.Base Go.Proofs.YtdbfclfglpbpmaaW.PrintWords Go.Proofs.YtdbfclfglpbpmaaW.PrintMore Go.Proofs.Ytdbfclfglpbpmaa.PF25O
set_option linter.unusedVariables false
set_option linter.unusedSimpArgs false

/-! ### a roster of one -/
theorem place_nil (id : Int) : roster_place.f [] id = some (0, false) := by
  simp [roster_place.f, roster_Device_int.f, bsI]
theorem place_one (id t : Int) (g : Bool) (last : Int) : roster_place.f [⟨id, t, g, last⟩] id = some (0, true) := by
  simp [roster_place.f, roster_Device_int.f, bsI, rd_T115]
theorem Enrol_nil (id : Int) (h0 : 0 ≤ id) (h1 : id < 16) : Ev (fun k => roster_Enrol.f k [] id) ([⟨id, 1, false, 0⟩], 0) := by
  unfold roster_Enrol.f
  simp only [roster_Device_88.f, List.length_nil, if_pos (show 0 < 4398046511104 by decide), Option.bind_some, place_nil, if_neg (show ¬ id < 0 by omega), decide_eq_false (show ¬ id ≥ 16 by omega)]
  apply ev_succ
  simp only [roster_Enrol.j0, Bool.false_eq_true, if_false, roster_Device_90.f, List.length_nil, List.length_singleton, List.take_nil, List.drop_nil, List.nil_append, List.append_nil]
  rw [if_pos (show 0 ≤ (0 : Int) ∧ (0 : Int) ≤ ((0 : Nat) : Int) ∧ True ∧ 0 < 1000000000 by decide)]
  exact ev_some _
theorem Accept_one (id last x : Int) : roster_Accept.f [⟨id, 1, false, last⟩] id x = some (if x ≤ last ∨ x > 281474976710656 then ([⟨id, 1, false, last⟩], 20) else ([⟨id, 1, false, x⟩], 0)) := by
  have hr : rd_T115 [(⟨id, 1, false, last⟩ : S115)] 0 = ⟨id, 1, false, last⟩ := rfl
  simp only [roster_Accept.f, roster_May.f, roster_there.f, place_one, Option.bind_some, roster_Device_88.f, List.length_singleton, if_pos (show 1 < 4398046511104 by decide), if_true, if_pos (show (0 : Int) ≤ 0 by decide), if_pos (show (0 : Int) < ((1 : Nat) : Int) by decide), hr, Bool.false_eq_true, if_false]
  by_cases c1 : x ≤ last
  · simp only [if_pos c1, if_pos (show x ≤ last ∨ x > 281474976710656 from .inl c1), Option.bind_some, if_neg (show ¬ (20 : Int) = 0 by decide)]
  · by_cases c2 : x > 281474976710656
    · simp only [if_neg c1, if_pos c2, if_pos (show x ≤ last ∨ x > 281474976710656 from .inr c2), Option.bind_some, if_neg (show ¬ (20 : Int) = 0 by decide)]
    · simp only [if_neg c1, if_neg c2, if_neg (show ¬ (x ≤ last ∨ x > 281474976710656) by omega), Option.bind_some, if_true]
      rfl
theorem Find_one (id last : Int) : roster_Find.f [⟨id, 1, false, last⟩] id = some (id, 1, false, last, true) := by
  have hr : rd_T115 [(⟨id, 1, false, last⟩ : S115)] 0 = ⟨id, 1, false, last⟩ := rfl
  simp only [roster_Find.f, place_one, Option.bind_some, if_true, if_pos (show (0 : Int) ≤ 0 by decide), List.length_singleton, if_pos (show (0 : Int) < ((1 : Nat) : Int) by decide), hr]

end Go.Proofs.Ytdbfclfglpbpmaa.LF25O
