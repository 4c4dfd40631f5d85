/- The law TicketUses, of plain lists: whether any ticket is of use to any device at any time, or why not, is what the page says. No condition beside the sizes that the row itself gives. -/
import Derived.Test.YthcpfkkddfgamaaLF26
namespace Go.Proofs.Ythcpfkkddfgamaa.Pure
open Go.RowKit Go.Proofs.Ythcpfkkddfgamaa.Base Go.Proofs.YthcpfkkddfgamaaW.PrintWords Go.Proofs.YthcpfkkddfgamaaW.PrintMore Go.Proofs.Ythcpfkkddfgamaa.PF26
set_option linter.unusedVariables false
set_option linter.unusedSimpArgs false
open Go.Proofs.Ythcpfkkddfgamaa.LF26

/-- .. and by the page. -/
def useS (no dev now : Int) : List S75 → Int
  | [] => 13
  | t :: r => if t.f0 ≠ no ∨ (t.f1 ≠ -1 ∧ t.f1 ≠ dev) then useS no dev now r else if t.f2 < now then 14 else 0
theorem Use_l0 (l : List S75) (no dev now : Int) (hl : l.length ≤ 1000000) : ∀ (d i : Nat), l.length - i = d → i ≤ l.length → Ev (fun k => batonref26_Use.l0 k l no dev now (i : Int)) (useS no dev now (l.drop i)) := by
  intro d
  induction d with
  | zero =>
    intro i hd hi
    obtain rfl : i = l.length := by omega
    apply ev_succ
    simp only [batonref26_Use.l0, if_neg (show ¬ ((l.length : Int) < (l.length : Int)) by omega), List.drop_length]
    exact ev_some _
  | succ d ih =>
    intro i hd hi
    have hlt : i < l.length := by omega
    have hw : wrap64 ((i : Int) + 1) = ((i + 1 : Nat) : Int) := by rw [w64 (by omega) (by omega)]; omega
    have h := ih (i + 1) (by omega) (by omega)
    have j : ∀ b : Bool, b = decide (l[i].f0 ≠ no ∨ (l[i].f1 ≠ -1 ∧ l[i].f1 ≠ dev)) → Ev (fun k => batonref26_Use.j1 k l no dev now (i : Int) b l[i].f0 l[i].f1 l[i].f2) (useS no dev now (l.drop i)) := fun b hb => by
      rw [List.drop_eq_getElem_cons hlt]
      unfold useS
      apply ev_succ
      by_cases c : l[i].f0 ≠ no ∨ (l[i].f1 ≠ -1 ∧ l[i].f1 ≠ dev)
      · rw [decide_eq_true c] at hb
        subst hb
        simp only [batonref26_Use.j1, if_true, if_pos c, hw]
        exact h
      · rw [decide_eq_false c] at hb
        subst hb
        simp only [batonref26_Use.j1, Bool.false_eq_true, if_false, if_neg c]
        by_cases c2 : l[i].f2 < now
        · simp only [if_pos c2]
          exact ev_some _
        · simp only [if_neg c2]
          exact ev_some _
    apply ev_succ
    simp only [batonref26_Use.l0, if_pos (show (i : Int) < (l.length : Int) by omega), if_pos (show (0 : Int) ≤ (i : Int) by omega), rd75 l i hlt]
    by_cases c1 : l[i].f0 = no
    · simp only [if_pos c1]
      by_cases c2 : l[i].f1 = -1
      · simp only [if_pos c2]
        refine j false (decide_eq_false (fun h => ?_)).symm
        rcases h with h | h
        · exact h c1
        · exact h.1 c2
      · simp only [if_neg c2]
        refine j _ ?_
        by_cases c3 : l[i].f1 = dev
        · rw [decide_eq_false (fun h => by rcases h with h | h; exact h c1; exact h.2 c3), bne_eq_false_iff_eq.2 c3]
        · rw [decide_eq_true (.inr ⟨c2, c3⟩), bne_iff_ne.2 c3]
    · simp only [if_neg c1]
      exact j true (decide_eq_true (.inl c1)).symm
theorem useS_none (no dev now : Int) : ∀ (l : List S75) (last : Int), no ≤ last → RT last l → useS no dev now l = 13
  | [], _, _, _ => rfl
  | t :: r, last, h, hr => by
    have h1 := hr.2.1
    unfold useS
    rw [if_pos (.inl (by omega))]
    exact useS_none no dev now r t.f0 (by omega) hr.2.2
theorem use_eq (no dev now : Int) : ∀ (l : List S69) (last : Int), RT last (l.map cv) → useT no dev now l = useS no dev now (l.map cv)
  | [], _, _ => rfl
  | t :: r, last, hr => by
    have h1 : okT (cv t) := hr.1
    have h2 : RT t.f0 (r.map cv) := hr.2.2
    have h3 : -1 ≤ t.f1 := h1.2.2.1
    rw [List.map_cons]
    unfold useT useS
    show _ = if t.f0 ≠ no ∨ (t.f1 ≠ -1 ∧ t.f1 ≠ dev) then useS no dev now (r.map cv) else if t.f2 < now then 14 else 0
    by_cases c : t.f0 = no
    · rw [if_pos c]
      by_cases c2 : t.f1 ≥ 0 ∧ t.f1 ≠ dev
      · rw [if_pos c2, if_pos (.inr ⟨by omega, c2.2⟩), useS_none no dev now _ t.f0 (by omega) h2]
      · rw [if_neg c2, if_neg (show ¬ (t.f0 ≠ no ∨ (t.f1 ≠ -1 ∧ t.f1 ≠ dev)) by omega)]
    · rw [if_neg c, if_pos (.inl c)]
      exact use_eq no dev now r t.f0 h2
theorem TicketUses : batonlaw26_TicketUses.Pure := by
  intro l no dev now _ _ _ _
  refine Ev.rounds ?_
  unfold batonlaw26_TicketUses.f
  refine ev_bind awake26 ?_
  simp only [if_true]
  have jt : Ev (fun k => batonlaw26_TicketUses.j0 k l no true dev now) true := by
    apply ev_succ
    simp only [batonlaw26_TicketUses.j0, if_true]
    exact ev_some _
  by_cases c : (l.length : Int) > 40
  · simp only [if_pos c]
    exact jt
  · simp only [if_neg c]
    refine ev_bind (Ref_ev l (by omega)) (ev_bind (RRight_ev _ (by rw [List.length_map]; omega)) ?_)
    by_cases h : RT 0 (l.map cv) ∧ (l.map cv).length ≤ 24
    · rw [decide_eq_true h]
      apply ev_succ
      simp only [batonlaw26_TicketUses.j0, Bool.not_true, Bool.false_eq_true, if_false, Use_f, Option.bind_some]
      refine ev_bind (Ref_ev l (by omega)) ?_
      unfold batonref26_Use.f
      refine ev_bind (Use_l0 (l.map cv) no dev now (by rw [List.length_map]; omega) (l.map cv).length 0 (by omega) (by omega)) ?_
      refine ev_eq (ev_some _) ?_
      rw [use_eq no dev now l 0 h.1]
      exact beq_self_eq_true _
    · rw [decide_eq_false h]
      exact jt

end Go.Proofs.Ythcpfkkddfgamaa.Pure
