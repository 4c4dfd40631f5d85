/- The law GridApart, of plain lists: what a board tells may be changed, and what it was made of, and it stays as it was. No condition beside the sizes that the row itself gives. -/
import Derived.Test.YtkckojgjkmcokaaLF10A
namespace Go.Proofs.Ytkckojgjkmcokaa.Pure
open Go.RowKit Go.Proofs.Ytkckojgjkmcokaa.Base Go.Proofs.YtkckojgjkmcokaaW.PrintWords Go.Proofs.YtkckojgjkmcokaaW.PrintMore Go.Proofs.Ytkckojgjkmcokaa.PF10A
set_option linter.unusedVariables false
set_option linter.unusedSimpArgs false
open Go.Proofs.Ytkckojgjkmcokaa.LF10A

theorem GridApart : batonlaw10_GridApart.Pure := by
  intro r c l f0 f1 f2 f3 hr hc hl h0 h1 h2 h3
  have hb := bounds_i32 h0
  have h32 : i32s l := fun x hx => by have := bounds_i32 (hl.2 x hx).1; omega
  refine Ev.rounds ?_
  unfold batonlaw10_GridApart.f
  refine ev_bind awake10_ev ?_
  simp only [if_true]
  have j0t : Ev (fun k => batonlaw10_GridApart.j0 k true r c l) true := by
    apply ev_succ
    simp only [batonlaw10_GridApart.j0, if_true]
    exact ev_some _
  by_cases c1 : (l.length : Int) > 400
  · simp only [if_pos c1]
    exact j0t
  · simp only [if_neg c1]
    refine ev_bind (RGRight_ev r c l h32 (by omega)) ?_
    by_cases c2 : okg r c l
    · simp only [decide_eq_true c2, if_true, RRight_f f0 f1 f2 f3 (by omega) (by omega), Option.bind_some]
      by_cases c3 : okc f0 ∧ okp f1 f2 f3
      · simp only [decide_eq_true c3, Bool.not_true]
        obtain ⟨hs, hn, _⟩ := id c2
        obtain ⟨m1, m2, m3⟩ := szok_mul hs
        obtain ⟨s1, s2, s3, s4⟩ := id hs
        apply ev_succ
        simp only [batonlaw10_GridApart.j0, Bool.false_eq_true, if_false, Option.bind_some, List.nil_append, List.length_nil, if_pos (show 0 + l.length < 4398046511104 by omega)]
        refine ev_bind (Of_ev r c l (by omega)) ?_
        simp only [if_pos c2, if_true]
        apply ev_succ
        simp only [batonlaw10_GridApart.j1, Bool.false_eq_true, if_false, if_pos (show 0 < (l.length : Int) by omega), Grid_f r c l (by omega), Row_f r c l 0 (by omega) (by omega) (by omega) (by omega) (by omega) hn (by omega), Option.bind_some, if_neg (show ¬ (l.length : Int) = 0 by omega), Int.zero_mul, Int.zero_add, Int.toNat_zero, List.drop_zero]
        have hm : c ≤ r * c := by
          have := Int.mul_le_mul_of_nonneg_right s1 (show 0 ≤ c by omega)
          rw [Int.one_mul] at this
          exact this
        have ht : (l.take c.toNat).length = c.toNat := by rw [List.length_take]; omega
        rw [ht, show (((c.toNat : Nat) : Int) == 0) = false from beq_eq_false_iff_ne.2 (by omega)]
        apply ev_succ
        simp only [batonlaw10_GridApart.j2, Bool.false_eq_true, if_false, if_pos (show 0 < (l.length : Int) by omega), ht, if_pos (show 0 < ((c.toNat : Nat) : Int) by omega), Grid_f r c l (by omega), Option.bind_some]
        exact ev_bind (RGSame_ev r c l r c l (by omega)) (ev_eq (ev_some _) (decide_eq_true ⟨rfl, rfl, rfl⟩))
      · simp only [decide_eq_false c3, Bool.not_false]
        exact j0t
    · simp only [decide_eq_false c2, Bool.false_eq_true, if_false]
      exact j0t

end Go.Proofs.Ytkckojgjkmcokaa.Pure
