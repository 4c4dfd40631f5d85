/- Plain lemmas: what a Reader and the reference read. No condition. -/
import Derived.Test.YthcpfkkddfgamaaCoP
namespace Go.Proofs.Ythcpfkkddfgamaa.Cod
open Go.RowKit Go.Proofs.YthcpfkkddfgamaaW.Hand Go.Proofs.YthcpfkkddfgamaaW.PrintWords Go.Proofs.YthcpfkkddfgamaaW.PrintLast Go.Proofs.YthcpfkkddfgamaaW.PrintMore Go.Proofs.Ythcpfkkddfgamaa.PF06R Go.Proofs.Ythcpfkkddfgamaa.Base Go.Proofs.Ythcpfkkddfgamaa.LF06R
attribute [local go_sem] max2_int min2_int max_two min_two max_three min_three max_four min_four
set_option linter.unusedVariables false
set_option linter.unusedSimpArgs false

theorem reft_c (b : List Int) (hl : b.length ≤ 1000000) (t m : Nat) (ht : t ≤ b.length) (most : Int) (q : Int) (c2 : ¬ (m : Int) > most) (c3 : ¬ (m : Int) > (b.length : Int) - t) (h1 : Ev (fun k => batonref06_ReadNumber.f k b q) ((m : Int), (t : Int), 0)) : Ev (fun k => batonref06_ReadText.f k b q most) ((b.drop t).take m, ((t + m : Nat) : Int), 0) := by
  have hw : wrap64 ((b.length : Int) - (t : Int)) = (b.length : Int) - t := w64 (by omega) (by omega)
  have hw2 : wrap64 ((t : Int) + (m : Int)) = ((t + m : Nat) : Int) := by rw [w64 (by omega) (by omega)]; omega
  unfold batonref06_ReadText.f
  refine ev_bind h1 ?_
  simp only [if_true, if_neg c2, hw, if_neg c3, hw2, if_pos (show (0 : Int) ≤ (t : Int) by omega), if_pos (show (t : Int) ≤ ((t + m : Nat) : Int) by omega), if_pos (show ((t + m : Nat) : Int) ≤ (b.length : Int) by omega), Int.toNat_natCast]
  refine ev_eq (ev_some _) ?_
  rw [List.drop_take, show t + m - t = m by omega]
theorem reft_b (b : List Int) (hl : b.length ≤ 1000000) (t : Nat) (n : Int) (ht : t ≤ b.length) (most : Int) (q : Int) (c2 : ¬ n > most) (c3 : n > (b.length : Int) - t) (h1 : Ev (fun k => batonref06_ReadNumber.f k b q) (n, (t : Int), 0)) : Ev (fun k => batonref06_ReadText.f k b q most) ([], (t : Int), 4) := by
  have hw : wrap64 ((b.length : Int) - (t : Int)) = (b.length : Int) - t := w64 (by omega) (by omega)
  unfold batonref06_ReadText.f
  refine ev_bind h1 ?_
  simp only [if_true, if_neg c2, hw, if_pos c3]
  exact ev_some _
theorem reft_a (b : List Int) (z : Int) (n : Int) (most : Int) (q : Int) (c2 : n > most) (h1 : Ev (fun k => batonref06_ReadNumber.f k b q) (n, z, 0)) : Ev (fun k => batonref06_ReadText.f k b q most) ([], z, 22) := by
  unfold batonref06_ReadText.f
  refine ev_bind h1 ?_
  simp only [if_true, if_pos c2]
  exact ev_some _
theorem reft_e (b : List Int) (z : Int) (n e : Int) (most : Int) (q : Int) (c : ¬ e = 0) (h1 : Ev (fun k => batonref06_ReadNumber.f k b q) (n, z, e)) : Ev (fun k => batonref06_ReadText.f k b q most) ([], z, e) := by
  unfold batonref06_ReadText.f
  refine ev_bind h1 ?_
  simp only [if_neg c]
  exact ev_some _
theorem reft_ev (b : List Int) (hb : Bytes b) (hl : b.length ≤ 1000000) (q : Nat) (hq : q ≤ b.length) (most : Int) : ∃ zt : Int, Ev (fun k => batonref06_ReadText.f k b (q : Int) most) ((textR (b.drop q) 0 most).1, zt, (textR (b.drop q) 0 most).2.2) ∧ ((textR (b.drop q) 0 most).2.2 = 0 → ∃ t : Nat, zt = (t : Int) ∧ t ≤ b.length ∧ (textR (b.drop q) 0 most).2.1 = b.drop t) := by
  obtain ⟨zt, h1, h2⟩ := ref_ev b hb hl q hq
  have hbd : Bytes (b.drop q) := fun x hx => hb x (List.mem_of_mem_drop hx)
  obtain ⟨a0, _⟩ := numR_facts (b.drop q) hbd 0 (by decide)
  have ht0 : textR (b.drop q) 0 most = ((takeR (numR (b.drop q) 0).2.1 (if (numR (b.drop q) 0).2.2 = 0 ∧ (numR (b.drop q) 0).1 > most then 22 else (numR (b.drop q) 0).2.2) (numR (b.drop q) 0).1).1, (takeR (numR (b.drop q) 0).2.1 (if (numR (b.drop q) 0).2.2 = 0 ∧ (numR (b.drop q) 0).1 > most then 22 else (numR (b.drop q) 0).2.2) (numR (b.drop q) 0).1).2.2.1, (takeR (numR (b.drop q) 0).2.1 (if (numR (b.drop q) 0).2.2 = 0 ∧ (numR (b.drop q) 0).1 > most then 22 else (numR (b.drop q) 0).2.2) (numR (b.drop q) 0).1).2.2.2) := rfl
  generalize numR (b.drop q) 0 = r at h1 h2 a0 ht0
  obtain ⟨n, r1, e⟩ := r
  by_cases c : e = 0
  · subst c
    obtain ⟨t, hzt, ht, hr⟩ := h2 rfl
    subst hzt
    have hr' : r1 = b.drop t := hr
    have hlen : (r1.length : Int) = (b.length : Int) - t := by rw [hr', List.length_drop]; omega
    by_cases c2 : n > most
    · have e1 : textR (b.drop q) 0 most = ([], r1, 22) := by
        rw [ht0]
        show ((takeR r1 (if (0 : Int) = 0 ∧ n > most then 22 else 0) n).1, (takeR r1 (if (0 : Int) = 0 ∧ n > most then 22 else 0) n).2.2.1, (takeR r1 (if (0 : Int) = 0 ∧ n > most then 22 else 0) n).2.2.2) = _
        rw [if_pos ⟨rfl, c2⟩]
        rfl
      rw [e1]
      exact ⟨t, reft_a b t n most q c2 h1, fun h => absurd (show (22 : Int) = 0 from h) (by decide)⟩
    · have e0 : textR (b.drop q) 0 most = ((takeR r1 0 n).1, (takeR r1 0 n).2.2.1, (takeR r1 0 n).2.2.2) := by
        rw [ht0]
        show ((takeR r1 (if (0 : Int) = 0 ∧ n > most then 22 else 0) n).1, (takeR r1 (if (0 : Int) = 0 ∧ n > most then 22 else 0) n).2.2.1, (takeR r1 (if (0 : Int) = 0 ∧ n > most then 22 else 0) n).2.2.2) = _
        rw [if_neg (fun h => c2 h.2)]
      by_cases c3 : n > (b.length : Int) - t
      · have e1 : takeR r1 0 n = ([], false, r1, 4) := by unfold takeR; rw [if_pos rfl, if_neg (by omega)]
        rw [e0, e1]
        exact ⟨t, reft_b b hl t n ht most q c2 c3 h1, fun h => absurd (show (4 : Int) = 0 from h) (by decide)⟩
      · obtain ⟨m, rfl⟩ := Int.eq_ofNat_of_zero_le (show 0 ≤ n from a0)
        have e1 : takeR r1 0 (m : Int) = (r1.take m, true, r1.drop m, 0) := by unfold takeR; rw [if_pos rfl, if_pos (by omega), Int.toNat_natCast]
        rw [e0, e1]
        refine ⟨((t + m : Nat) : Int), ?_, fun _ => ⟨t + m, rfl, by omega, by show r1.drop m = _; rw [hr', List.drop_drop]⟩⟩
        show Ev _ (r1.take m, _, _)
        rw [hr']
        exact reft_c b hl t m ht most q c2 c3 h1
  · have e1 : textR (b.drop q) 0 most = ([], r1, e) := by
      rw [ht0]
      show ((takeR r1 (if e = 0 ∧ n > most then 22 else e) n).1, (takeR r1 (if e = 0 ∧ n > most then 22 else e) n).2.2.1, (takeR r1 (if e = 0 ∧ n > most then 22 else e) n).2.2.2) = _
      rw [if_neg (fun h => c h.1)]
      unfold takeR
      rw [if_neg c]
    rw [e1]
    exact ⟨zt, reft_e b zt n e most q c h1, fun h => absurd (show e = 0 from h) c⟩
theorem same_f (a : List Int) (hl : a.length ≤ 1000000) : ∃ k, batonref01_Same.f k a a = some true := (ev_eq (Same_ev a a (by omega)) (decide_eq_true rfl)).rounds

end Go.Proofs.Ythcpfkkddfgamaa.Cod
