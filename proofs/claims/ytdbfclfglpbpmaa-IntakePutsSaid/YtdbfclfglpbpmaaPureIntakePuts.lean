/- The law IntakePuts, of plain lists: Room, Put and Flush agree with the reference. No condition beside the sizes that the row itself gives. -/
import Derived.Test.YtdbfclfglpbpmaaLF33
namespace Go.Proofs.Ytdbfclfglpbpmaa.Pure
open Go.RowKit Go.Proofs.Ytdbfclfglpbpmaa.Base Go.Proofs.YtdbfclfglpbpmaaW.PrintWords Go.Proofs.YtdbfclfglpbpmaaW.PrintMore Go.Proofs.Ytdbfclfglpbpmaa.PF33
set_option linter.unusedVariables false
set_option linter.unusedSimpArgs false
open Go.Proofs.Ytdbfclfglpbpmaa.LF33

theorem Put_ev (q b : List Int) (hq : q.length ≤ 1000000000) (hb : b.length ≤ 1000000000) : Ev (fun k => intake_Put.f k q b) (if (b.length : Int) > mx (256 - (q.length : Int)) 0 then (q, 2) else (q ++ b, 0)) := by
  have e : wrap64 (256 - (q.length : Int)) = 256 - (q.length : Int) := w64 (by omega) (by omega)
  simp only [intake_Put.f, intake_Room.f, e, Option.bind_some]
  by_cases c : (b.length : Int) > mx (256 - (q.length : Int)) 0
  · simp only [if_pos c]
    exact ev_some _
  · simp only [if_neg c]
    exact ev_bind (Concat2 q b (by omega) (by omega)) (ev_some _)
def mkE (e d : Int) (b : Int) : S36 := ⟨e, d, b⟩
theorem Flush_l0 (l : List Int) (e d : Int) (hl : l.length ≤ 1000000000) : ∀ (n i : Nat), l.length - i = n → i ≤ l.length → Ev (fun k => intake_Flush.l0 k e d ((l.take i).map (mkE e d)) l (l.length : Int) (i : Int)) (([] : List Int), l.map (mkE e d)) := by
  intro n
  induction n with
  | zero =>
    intro i hd hi
    obtain rfl : i = l.length := by omega
    apply ev_succ
    simp only [intake_Flush.l0, if_neg (show ¬ ((l.length : Int) < (l.length : Int)) by omega), List.take_length]
    exact ev_some _
  | succ n ih =>
    intro i hd hi
    have hlt : i < l.length := by omega
    have hw : wrap64 ((i : Int) + 1) = ((i + 1 : Nat) : Int) := by rw [w64 (by omega) (by omega)]; omega
    have hlen : ((l.take i).map (mkE e d)).length < 5864062014805 := by rw [List.length_map, List.length_take]; omega
    apply ev_succ
    simp only [intake_Flush.l0, if_pos (show (i : Int) < (l.length : Int) by omega), if_pos (show (0 : Int) ≤ (i : Int) by omega), rd_lt hlt, hw, if_pos hlen]
    have e1 : (l.take i).map (mkE e d) ++ [(⟨e, d, l[i]⟩ : S36)] = (l.take (i + 1)).map (mkE e d) := by rw [List.take_succ_eq_append_getElem hlt, List.map_append]; rfl
    rw [e1]
    exact ih (i + 1) (by omega) (by omega)
theorem Flush_ev (l : List Int) (e d : Int) (hl : l.length ≤ 1000000000) : Ev (fun k => intake_Flush.f k l e d) (([] : List Int), l.map (mkE e d)) := by
  unfold intake_Flush.f
  have := Flush_l0 l e d hl l.length 0 (by omega) (by omega)
  simpa using this
theorem Puts_l0 (w : List Int) (e d : Int) (hl : w.length ≤ 1000000000) : ∀ (n i : Nat), w.length - i = n → i ≤ w.length → Ev (fun k => batonlaw33_IntakePuts.l0 k w (w.map (mkE e d)) (i : Int) e d) true := by
  intro n
  induction n with
  | zero =>
    intro i hd hi
    obtain rfl : i = w.length := by omega
    apply ev_succ
    simp only [batonlaw33_IntakePuts.l0, List.length_map, if_neg (show ¬ ((w.length : Int) < (w.length : Int)) by omega)]
    refine ev_bind (Bytes_ev _ (by rw [List.length_map]; omega)) ?_
    have e1 : (w.map (mkE e d)).map (·.f2) = w := by rw [List.map_map]; exact List.map_id w
    rw [e1]
    refine ev_bind (Same_ev _ _ (by omega)) ?_
    exact ev_eq (ev_some _) (by simp)
  | succ n ih =>
    intro i hd hi
    have hlt : i < w.length := by omega
    have hlt' : i < (w.map (mkE e d)).length := by rw [List.length_map]; omega
    have hw : wrap64 ((i : Int) + 1) = ((i + 1 : Nat) : Int) := by rw [w64 (by omega) (by omega)]; omega
    apply ev_succ
    simp only [batonlaw33_IntakePuts.l0, List.length_map, if_pos (show (i : Int) < (w.length : Int) by omega), if_pos (show (0 : Int) ≤ (i : Int) by omega), rd36 _ i hlt', rd_lt hlt, hw, List.getElem_map, mkE, beq_self_eq_true, Bool.not_true, Bool.or_self, Bool.false_eq_true, if_false]
    exact ih (i + 1) (by omega) (by omega)
theorem Puts_j2 (w : List Int) (e d : Int) (hl : w.length ≤ 1000000000) : Ev (fun k => batonlaw33_IntakePuts.j2 k w (w.map (mkE e d)) false e d) true := by
  apply ev_succ
  simp only [batonlaw33_IntakePuts.j2, Bool.false_eq_true, if_false]
  exact Puts_l0 w e d hl w.length 0 (by omega) (by omega)
theorem Puts_j1 (q b w : List Int) (e d x9 : Int) (hq : q.length ≤ 1000000000) (hw : w.length ≤ 1000000000) (h9 : x9 = 0 ∧ (b.length : Int) ≤ mx (256 - (q.length : Int)) 0 ∨ x9 = 2 ∧ ¬ (b.length : Int) ≤ mx (256 - (q.length : Int)) 0) : Ev (fun k => batonlaw33_IntakePuts.j1 k b (mx (256 - (q.length : Int)) 0) x9 w q e d w) true := by
  have er : wrap64 (256 - (q.length : Int)) = 256 - (q.length : Int) := w64 (by omega) (by omega)
  apply ev_succ
  simp only [batonlaw33_IntakePuts.j1]
  refine ev_bind (Flush_ev w e d hw) ?_
  have tail : Ev (fun k => (batonref01_Same.f k w w).bind fun t217 => (if t217 = true then (if (([] : List Int).length : Int) = 0 then (batonlaw33_IntakePuts.j2 k w (w.map (mkE e d)) (((w.map (mkE e d)).length : Int) != (w.length : Int)) e d) else (batonlaw33_IntakePuts.j2 k w (w.map (mkE e d)) true e d)) else (batonlaw33_IntakePuts.j2 k w (w.map (mkE e d)) true e d))) true := by
    refine ev_bind (Same_ev w w (by omega)) ?_
    simp only [decide_true, if_true, List.length_nil, Int.ofNat_zero, List.length_map, bne_self_eq_false]
    exact Puts_j2 w e d hw
  simp only [intake_Room.f, er, Option.bind_some, if_true]
  rcases h9 with ⟨rfl, c⟩ | ⟨rfl, c⟩
  · simp only [if_pos c, if_true]
    exact tail
  · simp only [if_neg c, if_true, if_neg (show ¬ (2 : Int) = 0 by decide)]
    exact tail
theorem Puts_j0 (q b : List Int) (e d : Int) (hq : q.length ≤ 400) (hb : b.length ≤ 400) : Ev (fun k => batonlaw33_IntakePuts.j0 k b false q e d) true := by
  have er : wrap64 (256 - (q.length : Int)) = 256 - (q.length : Int) := w64 (by omega) (by omega)
  apply ev_succ
  simp only [batonlaw33_IntakePuts.j0, Bool.false_eq_true, if_false, er]
  refine ev_bind (Put_ev q b (by omega) (by omega)) ?_
  by_cases c : (b.length : Int) ≤ mx (256 - (q.length : Int)) 0
  · rw [if_neg (show ¬ (b.length : Int) > mx (256 - (q.length : Int)) 0 by omega)]
    simp only [if_pos c, Option.bind_some, List.nil_append, if_pos (show ([] : List Int).length + q.length < 140737488355328 by simp; omega), if_pos (show q.length + b.length < 140737488355328 by omega)]
    exact Puts_j1 q b (q ++ b) e d 0 (by omega) (by rw [List.length_append]; omega) (.inl ⟨rfl, c⟩)
  · rw [if_pos (show (b.length : Int) > mx (256 - (q.length : Int)) 0 by omega)]
    simp only [if_neg c]
    exact Puts_j1 q b q e d 2 (by omega) (by omega) (.inr ⟨rfl, c⟩)
theorem IntakePuts : batonlaw33_IntakePuts.Pure := by
  intro q b e d _ _ _ _
  refine Ev.rounds ?_
  unfold batonlaw33_IntakePuts.f
  refine ev_bind awake33 ?_
  simp only [if_true]
  by_cases c1 : (q.length : Int) > 400
  · simp only [if_pos c1]
    apply ev_succ
    simp only [batonlaw33_IntakePuts.j0, if_true]
    exact ev_some _
  · simp only [if_neg c1]
    by_cases c2 : (b.length : Int) > 400
    · simp only [decide_eq_true c2]
      apply ev_succ
      simp only [batonlaw33_IntakePuts.j0, if_true]
      exact ev_some _
    · simp only [decide_eq_false c2]
      exact Puts_j0 q b e d (by omega) (by omega)

end Go.Proofs.Ytdbfclfglpbpmaa.Pure
