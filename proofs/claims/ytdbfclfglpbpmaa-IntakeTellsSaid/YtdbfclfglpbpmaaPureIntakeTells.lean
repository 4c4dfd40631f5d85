/- The law IntakeTells, of plain lists: Of, Bytes and Rising agree with the reference. No condition beside the sizes that the row itself gives. -/
import Derived.Test.YtdbfclfglpbpmaaLF33
namespace Go.Proofs.Ytdbfclfglpbpmaa.Pure
open Go.RowKit Go.Proofs.Ytdbfclfglpbpmaa.Base Go.Proofs.YtdbfclfglpbpmaaW.PrintWords Go.Proofs.YtdbfclfglpbpmaaW.PrintMore Go.Proofs.Ytdbfclfglpbpmaa.PF33
set_option linter.unusedVariables false
set_option linter.unusedSimpArgs false
open Go.Proofs.Ytdbfclfglpbpmaa.LF33

theorem IntakeTells_l0 (l : List S36) (e : Int) (hl : l.length ≤ 100) : ∀ (d i : Nat), l.length - i = d → i ≤ l.length → Ev (fun k => batonlaw33_IntakeTells.l0 k l e ((l.take i).map (·.f2)) (ofL (l.take i) e) (i : Int)) true := by
  intro d
  induction d with
  | zero =>
    intro i hd hi
    obtain rfl : i = l.length := by omega
    apply ev_succ
    simp only [batonlaw33_IntakeTells.l0, if_neg (show ¬ ((l.length : Int) < (l.length : Int)) by omega), List.take_length]
    refine ev_bind (Bytes_ev l (by omega)) ?_
    refine ev_bind (Same_ev _ _ (by rw [List.length_map]; omega)) ?_
    simp only [decide_true, if_true]
    refine ev_bind (Of_ev l e (by omega)) ?_
    have hle := ofL_len l e l.length
    rw [List.take_length] at hle
    refine ev_bind (Same_ev _ _ (by omega)) ?_
    simp only [decide_true, if_true]
    obtain ⟨r, hr, hri⟩ := Rising_l0 l (by omega) (l.length - 1) 1 (by omega) (by omega)
    obtain ⟨v, hv, hvi⟩ := refRising_l0 (l.map toRef) (by rw [List.length_map]; omega) _ 0 rfl
    have hrv : r = v := by
      rw [Bool.eq_iff_iff, hri, hvi]
      simp only [rd137, List.length_map]
      constructor
      · intro h j _ hj q hq
        have key : ∀ (m q : Nat), q + m + 1 < l.length → okk (rd_T36 l (q : Int)).f0 (rd_T36 l (q : Int)).f1 (rd_T36 l ((q + m + 1 : Nat) : Int)).f0 (rd_T36 l ((q + m + 1 : Nat) : Int)).f1 := by
          intro m
          induction m with
          | zero => exact fun q hq => h (q + 1) (by omega) (by omega)
          | succ m ihm => exact fun q hq => okk_trans (ihm q (by omega)) (h (q + (m + 1) + 1) (by omega) (by omega))
        have := key (j - q - 1) q (by omega)
        rw [show q + (j - q - 1) + 1 = j by omega] at this
        exact this
      · intro h j h1 h2
        exact h j (Nat.zero_le _) h2 (j - 1) (by omega)
    have hr' : Ev (fun k => intake_Rising.f k l) r := by
      unfold intake_Rising.f
      exact hr
    have hv' : Ev (fun k => batonref33_Rising.f k (l.map toRef)) v := by
      unfold batonref33_Rising.f
      exact hv
    refine ev_bind hr' ?_
    refine ev_bind (Ref_ev l (by omega)) ?_
    refine ev_bind hv' ?_
    exact ev_eq (ev_some _) (by simp [hrv])
  | succ d ih =>
    intro i hd hi
    have hlt : i < l.length := by omega
    have hw : wrap64 ((i : Int) + 1) = ((i + 1 : Nat) : Int) := by rw [w64 (by omega) (by omega)]; omega
    have hlen1 : ((l.take i).map (·.f2)).length < 140737488355328 := by rw [List.length_map, List.length_take]; omega
    have hlen2 : (ofL (l.take i) e).length < 140737488355328 := by have := ofL_len l e i; omega
    have hs := ofL_snoc l e i hlt
    have e1 : (l.take i).map (·.f2) ++ [l[i].f2] = (l.take (i + 1)).map (·.f2) := by rw [List.take_succ_eq_append_getElem hlt, List.map_append]; rfl
    apply ev_succ
    simp only [batonlaw33_IntakeTells.l0, if_pos (show (i : Int) < (l.length : Int) by omega), if_pos (show (0 : Int) ≤ (i : Int) by omega), rd36 l i hlt, hw, if_pos hlen1, Option.bind_some, e1]
    by_cases c : l[i].f0 = e
    · rw [if_pos c] at hs
      simp only [if_pos c, if_pos hlen2]
      rw [← hs]
      exact ih (i + 1) (by omega) (by omega)
    · rw [if_neg c] at hs
      simp only [if_neg c]
      rw [← hs]
      exact ih (i + 1) (by omega) (by omega)
theorem IntakeTells : batonlaw33_IntakeTells.Pure := by
  intro l e hl _
  refine Ev.rounds ?_
  unfold batonlaw33_IntakeTells.f
  refine ev_bind awake33 ?_
  simp only [if_true]
  by_cases c1 : (l.length : Int) > 100
  · simp only [if_pos c1]
    exact ev_some _
  · simp only [if_neg c1]
    have := IntakeTells_l0 l e (by omega) l.length 0 (by omega) (by omega)
    simpa [ofL] using this

end Go.Proofs.Ytdbfclfglpbpmaa.Pure
