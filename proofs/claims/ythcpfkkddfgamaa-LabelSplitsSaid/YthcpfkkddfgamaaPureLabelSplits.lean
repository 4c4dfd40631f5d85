/- The law LabelSplits, of plain lists: which parts a text has is what the reference says, and what has parts is their text. No condition beside the sizes that the row itself gives. -/
import Derived.Test.YthcpfkkddfgamaaLF04S
namespace Go.Proofs.Ythcpfkkddfgamaa.Pure
open Go.RowKit Go.Proofs.Ythcpfkkddfgamaa.Base Go.Proofs.YthcpfkkddfgamaaW.PrintWords Go.Proofs.YthcpfkkddfgamaaW.PrintMore Go.Proofs.Ythcpfkkddfgamaa.PF04S
set_option linter.unusedVariables false
set_option linter.unusedSimpArgs false
open Go.Proofs.Ythcpfkkddfgamaa.LF04S

theorem LabelSplits : batonlaw04_LabelSplits.Pure := by
  intro b _ _ hw
  have hB : Bytes b := bytes_of hw
  refine Ev.rounds ?_
  unfold batonlaw04_LabelSplits.f
  refine ev_bind awake04 ?_
  simp only [if_true]
  by_cases c : (b.length : Int) > 400
  · simp only [if_pos c]
    exact ev_some _
  · simp only [if_neg c]
    refine ev_bind (Split_ev b hB (by omega)) ?_
    refine ev_bind (refSplit_ev b hB (by omega)) ?_
    simp only [if_true]
    have key : (splitSpec b).2 = 0 → ∃ l, splitSpec b = (l, 0) ∧ l.length ≤ 64 ∧ (l.length : Int) :: enc l = b ∧ ∀ p ∈ l, p.length ≤ 1048576 := by
      intro h0
      cases b with
      | nil => exact absurd h0 (by decide)
      | cons x r =>
        have hx := hB x (by simp)
        by_cases c1 : x > 64
        · have : splitSpec (x :: r) = ([], 2) := by simp only [splitSpec, if_pos c1]
          rw [this] at h0
          exact absurd h0 (by decide)
        · have hsp : splitSpec (x :: r) = sp x.toNat [] r := by simp only [splitSpec, if_neg c1]
          rw [hsp] at h0 ⊢
          obtain ⟨l', e1, e2, e3, e4⟩ := sp_back x.toNat [] r (sp x.toNat [] r).1 (fun y hy => hB y (List.mem_cons_of_mem _ hy)) (Prod.ext rfl h0)
          rw [List.nil_append] at e1
          exact ⟨l', Prod.ext e1 h0, by omega, by rw [e2, e3, show ((x.toNat : Nat) : Int) = x by omega], e4⟩
    have hlen : ∀ (m : Nat) (acc : List (List Int)) (r : List Int), (∀ p ∈ acc, p.length ≤ 1000000000) → acc.length + m ≤ 1000000 → r.length ≤ 1000000000 → (sp m acc r).1.length ≤ 1000000 ∧ ∀ p ∈ (sp m acc r).1, p.length ≤ 1000000000 := by
      intro m
      induction m with
      | zero =>
        intro acc r h1 h2 h3
        simp only [sp]
        split
        · exact ⟨Nat.zero_le _, fun p hp => by cases hp⟩
        · exact ⟨by simpa using h2, h1⟩
      | succ m ih =>
        intro acc r h1 h2 h3
        simp only [sp]
        split
        · have q : (partSpec r).1.length ≤ r.length ∧ (partSpec r).2.1.length ≤ r.length := by
            unfold partSpec
            repeat' split
            all_goals simp only [List.length_nil, List.length_take, List.length_drop]
            all_goals omega
          refine ih _ _ (fun p hp => ?_) (by rw [List.length_append, List.length_singleton]; omega) (by omega)
          rcases List.mem_append.1 hp with hp | hp
          · exact h1 p hp
          · rw [List.mem_singleton] at hp
            rw [hp]
            omega
        · exact ⟨Nat.zero_le _, fun p hp => by cases hp⟩
    have hsz : (splitSpec b).1.length ≤ 1000000 ∧ ∀ p ∈ (splitSpec b).1, p.length ≤ 1000000000 := by
      cases b with
      | nil => exact ⟨Nat.zero_le _, fun p hp => by cases hp⟩
      | cons x r =>
        simp only [splitSpec]
        split
        · exact ⟨Nat.zero_le _, fun p hp => by cases hp⟩
        · have hr : r.length + 1 ≤ 400 := by have : ((x :: r).length : Int) = (r.length : Int) + 1 := by simp
                                             omega
          exact hlen _ _ _ (fun p hp => by cases hp) (by rw [List.length_nil]; omega) (by omega)
    refine ev_bind (same_ev _ _ hsz.1 (fun p hp => by have := hsz.2 p hp; omega)) ?_
    simp only [decide_true, Bool.not_true]
    apply ev_succ
    simp only [batonlaw04_LabelSplits.j0, Bool.false_eq_true, if_false]
    by_cases c0 : (splitSpec b).2 = 0
    · obtain ⟨l, e1, e2, e3, e4⟩ := key c0
      simp only [e1, if_true]
      refine ev_bind (Join_ev l e2 e4) ?_
      simp only [if_true, e3]
      refine ev_bind (Same_ev _ _ (by omega)) ?_
      exact ev_eq (ev_some _) (by simp)
    · simp only [if_neg c0]
      exact ev_some _

end Go.Proofs.Ythcpfkkddfgamaa.Pure
