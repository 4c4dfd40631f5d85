/- The law OutboxOnce, of plain lists: those that wait are the last ones put, in their order, and none goes that was not taken. No condition beside the sizes that the row itself gives. -/
import Derived.Test.YtdbfclfglpbpmaaLF31
namespace Go.Proofs.Ytdbfclfglpbpmaa.Pure
open Go.RowKit Go.Proofs.Ytdbfclfglpbpmaa.Base Go.Proofs.YtdbfclfglpbpmaaW.PrintWords Go.Proofs.YtdbfclfglpbpmaaW.PrintMore Go.Proofs.Ytdbfclfglpbpmaa.PF31
set_option linter.unusedVariables false
set_option linter.unusedSimpArgs false
open Go.Proofs.Ytdbfclfglpbpmaa.LF31

theorem rd49 (l : List S49) (i : Nat) (h : i < l.length) : rd_T49 l (i : Int) = l[i] := by
  unfold rd_T49
  simp [List.getD_eq_getElem?_getD, h]
theorem Once_j1 (l : List S49) (all b : List Int) (f : Int) (i : Nat) (hi : i ≤ 1000) (h0 : 0 ≤ f) (h1 : f ≤ (all.length : Int)) (ha : all.length ≤ 1000000) (hb : b = all.drop f.toNat)
    (h : Ev (fun k => batonlaw31_OutboxOnce.l0 k l all f ((i + 1 : Nat) : Int) f b) true) : Ev (fun k => batonlaw31_OutboxOnce.j1 k l all f (i : Int) f b) true := by
  have hw : wrap64 ((i : Int) + 1) = ((i + 1 : Nat) : Int) := by rw [w64 (by omega) (by omega)]; omega
  apply ev_succ
  simp only [batonlaw31_OutboxOnce.j1, if_true, if_neg (show ¬ f > (all.length : Int) by omega), if_pos h0, if_pos h1]
  refine ev_bind (Same_ev b _ (by rw [hb, List.length_drop]; omega)) ?_
  rw [decide_eq_true hb]
  apply ev_succ
  simp only [batonlaw31_OutboxOnce.j2, Bool.not_true, Bool.false_eq_true, if_false, hw]
  exact h
theorem Once_l0 (l : List S49) (hl : l.length ≤ 30) : ∀ (d i : Nat) (all b : List Int) (f : Int), l.length - i = d → i ≤ l.length → 0 ≤ f → f ≤ (all.length : Int) → all.length ≤ 100 * i → b = all.drop f.toNat → Ev (fun k => batonlaw31_OutboxOnce.l0 k l all f (i : Int) f b) true := by
  intro d
  induction d with
  | zero =>
    intro i all b f hd hi h0 h1 ha hb
    obtain rfl : i = l.length := by omega
    apply ev_succ
    simp only [batonlaw31_OutboxOnce.l0, if_neg (show ¬ ((l.length : Int) < (l.length : Int)) by omega)]
    exact ev_some _
  | succ d ih =>
    intro i all b f hd hi h0 h1 ha hb
    have hlt : i < l.length := by omega
    have hbl : b.length = all.length - f.toNat := by rw [hb, List.length_drop]
    apply ev_succ
    simp only [batonlaw31_OutboxOnce.l0, if_pos (show (i : Int) < (l.length : Int) by omega), if_pos (show (0 : Int) ≤ (i : Int) by omega), rd49 l i hlt]
    by_cases c1 : (l[i].f2.length : Int) > 100
    · simp only [if_pos c1]
      exact ev_some _
    · simp only [if_neg c1]
      by_cases c2 : l[i].f0 = true
      · simp only [if_pos c2, Ack_at f b l[i].f1 h0 (by omega) (by omega), Option.bind_some]
        generalize l[i].f1 = n
        by_cases c3 : n > f + (b.length : Int)
        · simp only [if_pos c3, if_neg (show ¬ (20 : Int) = 0 by decide)]
          exact Once_j1 l all b f i (by omega) h0 h1 (by omega) hb (ih (i + 1) all b f (by omega) (by omega) h0 h1 (by omega) hb)
        · by_cases c4 : n ≤ f
          · have hm : mx f n = f := by unfold mx; rw [if_neg (by omega)]
            simp only [if_neg c3, if_pos c4, if_true, hm]
            exact Once_j1 l all b f i (by omega) h0 h1 (by omega) hb (ih (i + 1) all b f (by omega) (by omega) h0 h1 (by omega) hb)
          · have hm : mx f n = n := by unfold mx; rw [if_pos (by omega)]
            have hb2 : b.drop (n - f).toNat = all.drop n.toNat := by rw [hb, List.drop_drop, show f.toNat + (n - f).toNat = n.toNat by omega]
            simp only [if_neg c3, if_neg c4, if_true, hm]
            exact Once_j1 l all _ n i (by omega) (by omega) (by omega) (by omega) hb2 (ih (i + 1) all _ n (by omega) (by omega) (by omega) (by omega) (by omega) hb2)
      · simp only [if_neg c2]
        generalize l[i].f2 = dd at c1
        refine ev_bind (Put_at f b dd h0 (by omega) (by omega) (by omega)) ?_
        by_cases c3 : (b.length : Int) + (dd.length : Int) > 256
        · simp only [if_pos c3, if_neg (show ¬ (2 : Int) = 0 by decide)]
          exact Once_j1 l all b f i (by omega) h0 h1 (by omega) hb (ih (i + 1) all b f (by omega) (by omega) h0 h1 (by omega) hb)
        · have hb2 : b ++ dd = (all ++ dd).drop f.toNat := by rw [List.drop_append_of_le_length (by omega), hb]
          have hl2 : (all ++ dd).length = all.length + dd.length := List.length_append
          simp only [if_neg c3, if_neg (show ¬ f + (b.length : Int) + (dd.length : Int) > 281474976710656 by omega), if_true, if_pos (show all.length + dd.length < 140737488355328 by omega)]
          exact Once_j1 l (all ++ dd) _ f i (by omega) h0 (by omega) (by omega) hb2 (ih (i + 1) (all ++ dd) _ f (by omega) (by omega) h0 (by omega) (by omega) hb2)
theorem OutboxOnce : batonlaw31_OutboxOnce.Pure := by
  intro l _
  refine Ev.rounds ?_
  unfold batonlaw31_OutboxOnce.f
  refine ev_bind awake31 ?_
  simp only [if_true]
  by_cases c : (l.length : Int) > 30
  · simp only [if_pos c]
    exact ev_some _
  · simp only [if_neg c]
    exact Once_l0 l (by omega) l.length 0 [] [] 0 (by omega) (by omega) (by omega) (by simp) (by simp) rfl

end Go.Proofs.Ytdbfclfglpbpmaa.Pure
