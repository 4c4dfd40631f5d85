/- The law GridTells, of plain lists: which grids may be, and what a board of one tells of any place, is what the page says; two are alike just if all is. No condition beside the sizes that the row itself gives. -/
import Derived.Test.YtkckojgjkmcokaaLF10
namespace Go.Proofs.Ytkckojgjkmcokaa.Pure
open Go.RowKit Go.Proofs.Ytkckojgjkmcokaa.Base Go.Proofs.YtkckojgjkmcokaaW.PrintWords Go.Proofs.YtkckojgjkmcokaaW.PrintMore Go.Proofs.Ytkckojgjkmcokaa.PF10
set_option linter.unusedVariables false
set_option linter.unusedSimpArgs false
open Go.Proofs.Ytkckojgjkmcokaa.LF10

theorem GridTells : batonlaw10_GridTells.Pure := by
  intro r c l r' c' l' a b hr hc hl hr' hc' hl' ha hb
  have h32 : i32s l := fun x hx => by have := bounds_i32 (hl.2 x hx).1; omega
  refine Ev.rounds ?_
  unfold batonlaw10_GridTells.f
  refine ev_bind awake10_ev ?_
  simp only [if_true]
  have j0t : Ev (fun k => batonlaw10_GridTells.j0 k true r c l r' c' l' a b) true := by
    apply ev_succ
    simp only [batonlaw10_GridTells.j0, if_true]
    exact ev_some _
  by_cases c1 : (l.length : Int) > 400
  · simp only [if_pos c1]
    exact j0t
  · simp only [if_neg c1]
    by_cases c0 : (l'.length : Int) > 400
    · rw [decide_eq_true c0]
      exact j0t
    · rw [decide_eq_false c0]
      apply ev_succ
      simp only [batonlaw10_GridTells.j0, Bool.false_eq_true, if_false]
      refine ev_bind (RGRight_ev r c l h32 (by omega)) ?_
      refine ev_bind (Of_ev r c l (by omega)) ?_
      by_cases c2 : okg r c l
      · simp only [if_pos c2, if_true, decide_eq_true c2]
        refine ev_bind (ev_eq (GRight_ev r c l (by omega)) (decide_eq_true c2)) ?_
        simp only [bne_self_eq_false, Bool.false_eq_true, if_false]
        refine ev_bind (GGSame_ev r c l r' c' l' (by omega)) ?_
        refine ev_bind (RGSame_ev r c l r' c' l' (by omega)) ?_
        simp only [bne_self_eq_false]
        obtain ⟨hs, hn, _⟩ := id c2
        obtain ⟨m1, m2, m3⟩ := szok_mul hs
        obtain ⟨s1, s2, s3, s4⟩ := id hs
        apply ev_succ
        simp only [batonlaw10_GridTells.j1, Bool.false_eq_true, if_false, if_true, Grid_f r c l (by omega), Option.bind_some]
        refine ev_bind (ev_eq (GGSame_ev r c l r c l (by omega)) (decide_eq_true ⟨rfl, rfl, rfl⟩)) ?_
        simp only [if_true, grid_Board_Rows.f, grid_Board_Cols.f, Option.bind_some, bne_self_eq_false]
        apply ev_succ
        simp only [batonlaw10_GridTells.j2, Bool.false_eq_true, if_false]
        by_cases ca : 0 ≤ a ∧ a < r
        · simp only [Row_f r c l a ca.1 ca.2 (by omega) (by omega) (by omega) hn (by omega), Option.bind_some, if_neg (show ¬ a < 0 by omega), decide_eq_false (show ¬ a ≥ r by omega)]
          apply ev_succ
          obtain ⟨p1, p2, p3⟩ := place (r := r) (c := c) (a := a) (b := 0) ⟨ca.1, ca.2, by omega, by omega⟩ (by omega) (by omega) hn
          have w1 : wrap64 (a * c) = a * c := w64 (by omega) (by omega)
          have w2 : wrap64 (a * c + c) = a * c + c := w64 (by omega) (by omega)
          simp only [batonlaw10_GridTells.j3, Bool.false_eq_true, if_false, w1, w2, if_pos (show 0 ≤ a * c by omega), if_pos (show a * c ≤ a * c + c by omega), if_pos (show a * c + c ≤ (l.length : Int) by omega)]
          refine ev_bind (ev_eq (RSame_ev _ _ (by rw [List.length_drop, List.length_take]; omega)) (decide_eq_true rfl)) ?_
          simp only [if_true, At_f r c l a b (by omega) (by omega) hn, RAt_f r c l a b (by omega) (by omega) hn, Option.bind_some, beq_self_eq_true, Bool.and_self]
          exact ev_some _
        · simp only [Row_none r c l a ca, Option.bind_some]
          have key : Ev (fun k => batonlaw10_GridTells.j3 k [] true r c l a b r c l) true := by
            apply ev_succ
            have hcell : cellAt r c l a b = ⟨0, ⟨0, 0, 0⟩⟩ := if_neg (fun h => ca ⟨h.1, h.2.1⟩)
            simp only [batonlaw10_GridTells.j3, if_true, List.length_nil, if_pos (show ((0 : Nat) : Int) = 0 from rfl), At_f r c l a b (by omega) (by omega) hn, hcell, Option.bind_some]
            exact ev_some _
          by_cases cn : a < 0
          · simp only [if_pos cn]
            exact key
          · simp only [if_neg cn, decide_eq_true (show a ≥ r by omega)]
            exact key
      · simp only [if_neg c2, decide_eq_false c2, Bool.false_eq_true, if_false]
        refine ev_bind (ev_eq (GRight_ev r c l (by omega)) (decide_eq_false c2)) ?_
        simp only [bne_self_eq_false, Bool.false_eq_true, if_false]
        refine ev_bind (GGSame_ev r c l r' c' l' (by omega)) ?_
        refine ev_bind (RGSame_ev r c l r' c' l' (by omega)) ?_
        simp only [bne_self_eq_false, Bool.false_eq_true, if_false]
        exact ev_some _

end Go.Proofs.Ytkckojgjkmcokaa.Pure
