/- The law LabelJoins, of plain lists: the text of any parts is the reference's and is split into these again. No condition beside the sizes that the row itself gives. -/
import Derived.Test.YthcpfkkddfgamaaLF04
namespace Go.Proofs.Ythcpfkkddfgamaa.Pure
open Go.RowKit Go.Proofs.Ythcpfkkddfgamaa.Base Go.Proofs.YthcpfkkddfgamaaW.PrintWords Go.Proofs.YthcpfkkddfgamaaW.PrintMore Go.Proofs.Ythcpfkkddfgamaa.PF04
set_option linter.unusedVariables false
set_option linter.unusedSimpArgs false
open Go.Proofs.Ythcpfkkddfgamaa.LF04

theorem LabelJoins : batonlaw04_LabelJoins.Pure := by
  intro l hw
  refine Ev.rounds ?_
  unfold batonlaw04_LabelJoins.f
  refine ev_bind awake04 ?_
  simp only [if_true]
  refine ev_bind (few_ev l) ?_
  by_cases c : l.length ≤ 70 ∧ ∀ p ∈ l, p.length ≤ 100
  · simp only [decide_eq_true c, if_true]
    by_cases c2 : l.length > 64
    · have e : ∀ k, label_Join.f k l = some ([], 2) := fun k => by simp only [label_Join.f, if_pos (show (l.length : Int) > 64 by omega)]
      refine ev_bind (a := ([], 2)) (by simp only [e]; exact ev_some _) ?_
      simp only [if_pos (show (l.length : Int) > 64 by omega), List.length_nil, Int.ofNat_zero, if_true]
      exact ev_some _
    · have hp : ∀ p ∈ l, p.length ≤ 1048576 := fun p h => by have := c.2 p h; omega
      have hel := enc_len l hp
      have hB : Bytes ((l.length : Int) :: enc l) := by
        intro x hx
        rcases List.mem_cons.1 hx with rfl | hx
        · omega
        · obtain ⟨p, h1, h2⟩ := List.mem_flatMap.1 hx
          rcases List.mem_append.1 h2 with h3 | h3
          · exact be_bytes _ _ x h3
          · exact bounds_u8 ((hw.2 p h1).2 x h3)
      refine ev_bind (Join_ev l (by omega) hp) ?_
      simp only [if_neg (show ¬ (l.length : Int) > 64 by omega)]
      refine ev_bind (Split_ev _ hB (by rw [List.length_cons]; omega)) ?_
      have hs : splitSpec ((l.length : Int) :: enc l) = (l, 0) := by
        simp only [splitSpec, if_neg (show ¬ (l.length : Int) > 64 by omega), Int.toNat_natCast]
        rw [sp_enc l [] hp]
        rfl
      rw [hs]
      simp only [if_true]
      refine ev_bind (refJoin_ev l (by omega) hp) ?_
      refine ev_bind (Same_ev _ _ (by rw [List.length_cons]; omega)) ?_
      simp only [decide_true, if_true]
      refine ev_bind (same_ev l l (by omega) (fun p h => by have := c.2 p h; omega)) ?_
      exact ev_eq (ev_some _) (by simp)
  · simp only [decide_eq_false c, Bool.false_eq_true, if_false]
    exact ev_some _

end Go.Proofs.Ythcpfkkddfgamaa.Pure
