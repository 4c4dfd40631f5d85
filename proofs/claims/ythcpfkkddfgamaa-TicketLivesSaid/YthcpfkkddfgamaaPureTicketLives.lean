/- The law TicketLives, of plain lists: among those whose time is not over a ticket is of use just if it is of use among all; the others are late. No condition beside the sizes that the row itself gives. -/
import Derived.Test.YthcpfkkddfgamaaLF26L
namespace Go.Proofs.Ythcpfkkddfgamaa.Pure
open Go.RowKit Go.Proofs.Ythcpfkkddfgamaa.Base Go.Proofs.YthcpfkkddfgamaaW.PrintWords Go.Proofs.YthcpfkkddfgamaaW.PrintMore Go.Proofs.Ythcpfkkddfgamaa.PF26L
set_option linter.unusedVariables false
set_option linter.unusedSimpArgs false
open Go.Proofs.Ythcpfkkddfgamaa.LF26L

theorem useT_none (no dev now : Int) (p : S69 → Bool) : ∀ (l : List S69) (last : Int), no ≤ last → RT last (l.map cv) → useT no dev now (l.filter p) = 13
  | [], _, _, _ => rfl
  | t :: r, last, h, hr => by
    have h1 : last < t.f0 := hr.2.1
    have ih := useT_none no dev now p r t.f0 (by omega) hr.2.2
    rw [List.filter_cons]
    by_cases hp : p t = true
    · rw [if_pos hp]
      unfold useT
      rw [if_neg (by omega)]
      exact ih
    · rw [if_neg hp]
      exact ih
theorem lives (no dev now : Int) : ∀ (l : List S69) (last : Int), RT last (l.map cv) → (if useT no dev now l = 14 then useT no dev now (l.filter (fun x => !decide (x.f2 < now))) = 13 else useT no dev now l = useT no dev now (l.filter (fun x => !decide (x.f2 < now))))
  | [], _, _ => by simp [useT]
  | t :: r, last, hr => by
    have h2 : RT t.f0 (r.map cv) := hr.2.2
    have ih := lives no dev now r t.f0 h2
    have hn := useT_none no dev now (fun x => !decide (x.f2 < now)) r t.f0
    rw [List.filter_cons]
    by_cases c : t.f0 = no
    · have h13 := hn (by omega) h2
      have he : useT no dev now (t :: r) = if t.f1 ≥ 0 ∧ t.f1 ≠ dev then 13 else if t.f2 < now then 14 else 0 := by
        show (if t.f0 = no then _ else _) = _
        rw [if_pos c]
      by_cases c2 : t.f2 < now
      · rw [if_neg (show ¬ ((fun x : S69 => !decide (x.f2 < now)) t = true) by simpa using c2), h13, he]
        by_cases c1 : t.f1 ≥ 0 ∧ t.f1 ≠ dev
        · rw [if_pos c1, if_neg (by decide)]
        · rw [if_neg c1, if_pos c2, if_pos rfl]
      · rw [if_pos (show ((fun x : S69 => !decide (x.f2 < now)) t = true) by simpa using c2)]
        have he2 : useT no dev now (t :: r.filter (fun x => !decide (x.f2 < now))) = if t.f1 ≥ 0 ∧ t.f1 ≠ dev then 13 else if t.f2 < now then 14 else 0 := by
          show (if t.f0 = no then _ else _) = _
          rw [if_pos c]
        rw [he, he2]
        by_cases c1 : t.f1 ≥ 0 ∧ t.f1 ≠ dev
        · rw [if_pos c1, if_neg (by decide)]
        · rw [if_neg c1, if_neg c2, if_neg (by decide)]
    · have he : useT no dev now (t :: r) = useT no dev now r := by
        show (if t.f0 = no then _ else _) = _
        rw [if_neg c]
      rw [he]
      by_cases c2 : t.f2 < now
      · rw [if_neg (show ¬ ((fun x : S69 => !decide (x.f2 < now)) t = true) by simpa using c2)]
        exact ih
      · rw [if_pos (show ((fun x : S69 => !decide (x.f2 < now)) t = true) by simpa using c2)]
        have he2 : useT no dev now (t :: r.filter (fun x => !decide (x.f2 < now))) = useT no dev now (r.filter (fun x => !decide (x.f2 < now))) := by
          show (if t.f0 = no then _ else _) = _
          rw [if_neg c]
        rw [he2]
        exact ih
theorem TicketLives : batonlaw26_TicketLives.Pure := by
  intro l no dev now _ _ _ _
  refine Ev.rounds ?_
  unfold batonlaw26_TicketLives.f
  refine ev_bind awake26 ?_
  simp only [if_true]
  have jt : Ev (fun k => batonlaw26_TicketLives.j0 k l no true dev now) true := by
    apply ev_succ
    simp only [batonlaw26_TicketLives.j0, if_true]
    exact ev_some _
  by_cases c : (l.length : Int) > 40
  · simp only [if_pos c]
    exact jt
  · simp only [if_neg c]
    refine ev_bind (Ref_ev l (by omega)) (ev_bind (RRight_ev _ (by rw [List.length_map]; omega)) ?_)
    by_cases h : RT 0 (l.map cv) ∧ (l.map cv).length ≤ 24
    · rw [decide_eq_true h]
      have hl := lives no dev now l 0 h.1
      apply ev_succ
      simp only [batonlaw26_TicketLives.j0, Bool.not_true, Bool.false_eq_true, if_false, Use_f, Option.bind_some, ticket_Live.f, if_pos (show l.length < 5864062014805 by omega)]
      by_cases e : useT no dev now l = 14
      · rw [if_pos e] at hl
        simp only [if_pos e, hl]
        exact ev_some _
      · rw [if_neg e] at hl
        simp only [if_neg e]
        simp only [hl, beq_self_eq_true]
        exact ev_some _
    · rw [decide_eq_false h]
      exact jt

end Go.Proofs.Ythcpfkkddfgamaa.Pure
