/- The law OutboxPuts, of plain lists: which boxes may be, and what waits in any with some more, or why they do not fit, is what the page says. No condition beside the sizes that the row itself gives. -/
import Derived.Test.YtdbfclfglpbpmaaLF31P
namespace Go.Proofs.Ytdbfclfglpbpmaa.Pure
open Go.RowKit Go.Proofs.Ytdbfclfglpbpmaa.Base Go.Proofs.YtdbfclfglpbpmaaW.PrintWords Go.Proofs.YtdbfclfglpbpmaaW.PrintMore Go.Proofs.Ytdbfclfglpbpmaa.PF31P
set_option linter.unusedVariables false
set_option linter.unusedSimpArgs false
open Go.Proofs.Ytdbfclfglpbpmaa.LF31P

theorem keysL_app (d : List Int) : ∀ (b : List Int) (f : Int), keysL f (b ++ d) = keysL f b ++ keysL (f + (b.length : Int)) d
  | [], f => by simp [keysL]
  | x :: b, f => by
    have ih := keysL_app d b (f + 1)
    rw [List.cons_append]
    show _ :: keysL (f + 1) (b ++ d) = (_ :: keysL (f + 1) b) ++ _
    rw [ih, List.cons_append, List.length_cons, show f + 1 + (b.length : Int) = f + ((b.length + 1 : Nat) : Int) by omega]
theorem keysAt_ev (f : Int) (b : List Int) (h0 : 0 ≤ f) (h1 : f ≤ 281474976710656) (hl : b.length ≤ 1000000) : Ev (fun k => batonref31_Keys.f k f b) (keysL f b) := by
  unfold batonref31_Keys.f
  exact Keys_l0 f b h0 h1 hl b.length 0 (by omega) (by omega)
def okB (f : Int) (b : List Int) : Prop := 0 ≤ f ∧ f ≤ 281474976710656 ∧ b.length ≤ 256 ∧ f + (b.length : Int) ≤ 281474976710656
instance (f : Int) (b : List Int) : Decidable (okB f b) := by unfold okB; infer_instance
theorem right_f (f : Int) (b : List Int) (h0 : -9223372036854775808 ≤ f) (h1 : f ≤ 9223372036854775807) : batonlaw31_right.f f b = some (decide (okB f b)) := by
  unfold batonlaw31_right.f
  by_cases c0 : f ≥ 0
  · by_cases c1 : f ≤ 281474976710656
    · by_cases c2 : (b.length : Int) ≤ 256
      · rw [if_pos c0, if_pos c1, if_pos c2, w64 (x := f + (b.length : Int)) (by omega) (by omega)]
        exact congrArg some (decide_eq_decide.2 ⟨fun h => by unfold okB; omega, fun h => by unfold okB at h; omega⟩)
      · rw [if_pos c0, if_pos c1, if_neg c2]
        exact congrArg some (decide_eq_false (by unfold okB; omega)).symm
    · rw [if_pos c0, if_neg c1]
      exact congrArg some (decide_eq_false (by unfold okB; omega)).symm
  · rw [if_neg c0]
    exact congrArg some (decide_eq_false (by unfold okB; omega)).symm
theorem Right_f (f : Int) (b : List Int) (h0 : -9223372036854775808 ≤ f) (h1 : f ≤ 9223372036854775807) : outbox_Right.f f b = some (decide (okB f b)) := by
  unfold outbox_Right.f
  by_cases c0 : f ≥ 0
  · by_cases c1 : f ≤ 281474976710656
    · by_cases c2 : (b.length : Int) ≤ 256
      · rw [if_pos c0, if_pos c1, if_pos c2, w64 (x := 281474976710656 - f) (by omega) (by omega)]
        exact congrArg some (decide_eq_decide.2 ⟨fun h => by unfold okB; omega, fun h => by unfold okB at h; omega⟩)
      · rw [if_pos c0, if_pos c1, if_neg c2]
        exact congrArg some (decide_eq_false (by unfold okB; omega)).symm
    · rw [if_pos c0, if_neg c1]
      exact congrArg some (decide_eq_false (by unfold okB; omega)).symm
  · rw [if_neg c0]
    exact congrArg some (decide_eq_false (by unfold okB; omega)).symm
theorem OutboxPuts : batonlaw31_OutboxPuts.Pure := by
  intro f b d hf _ _
  have bf := bounds_i64 hf
  refine Ev.rounds ?_
  unfold batonlaw31_OutboxPuts.f
  refine ev_bind awake31 ?_
  simp only [if_true]
  have jt : Ev (fun k => batonlaw31_OutboxPuts.j0 k d true f b) true := by
    apply ev_succ
    simp only [batonlaw31_OutboxPuts.j0, if_true]
    exact ev_some _
  by_cases c1 : (b.length : Int) > 400
  · simp only [if_pos c1]
    exact jt
  · simp only [if_neg c1]
    by_cases c2 : (d.length : Int) > 400
    · rw [decide_eq_true c2]
      exact jt
    · rw [decide_eq_false c2]
      apply ev_succ
      simp only [batonlaw31_OutboxPuts.j0, Bool.false_eq_true, if_false, right_f f b (by omega) (by omega), Right_f f b (by omega) (by omega), Option.bind_some, bne_self_eq_false, decide_eq_true_eq]
      by_cases h : okB f b
      · have h' := h
        unfold okB at h'
        have e1 : wrap64 ((b.length : Int) + (d.length : Int)) = (b.length : Int) + (d.length : Int) := w64 (by omega) (by omega)
        have e2 : wrap64 (f + (b.length : Int)) = f + (b.length : Int) := w64 (by omega) (by omega)
        have e3 : wrap64 (f + (b.length : Int) + (d.length : Int)) = f + (b.length : Int) + (d.length : Int) := w64 (by omega) (by omega)
        have hk : Ev (fun k => batonlaw31_keys.f k f b) (keysL f b) := keys_ev f b (by omega) (by omega) (by omega)
        have hs := SameK_ev (keysL f b) (by rw [keysL_len]; omega)
        simp only [if_pos h]
        refine ev_bind (Put_at f b d (by omega) (by omega) (by omega) (by omega)) ?_
        simp only [e1, e2, e3]
        by_cases c3 : (b.length : Int) + (d.length : Int) > 256
        · simp only [if_pos c3, if_true]
          refine ev_bind hk (ev_bind hk (ev_bind hs ?_))
          simp only [if_true, beq_self_eq_true]
          exact ev_some _
        · by_cases c4 : f + (b.length : Int) + (d.length : Int) > 281474976710656
          · simp only [if_neg c3, if_pos c4, if_true]
            refine ev_bind hk (ev_bind hk (ev_bind hs ?_))
            simp only [if_true, beq_self_eq_true]
            exact ev_some _
          · have hal : (b ++ d).length = b.length + d.length := List.length_append
            have e4 : wrap64 (f + ((b ++ d).length : Int)) = f + (b.length : Int) + (d.length : Int) := by rw [w64 (by omega) (by omega)]; omega
            have hok2 : okB f (b ++ d) := by unfold okB; omega
            have hs2 := SameK_ev (keysL f (b ++ d)) (by rw [keysL_len]; omega)
            have hkk := keysL_app d b f
            simp only [if_neg c3, if_neg c4, Option.bind_some, List.nil_append, List.length_nil]
            refine ev_bind hk ?_
            simp only [keysL_len, if_pos (show 0 + b.length < 8796093022208 by omega)]
            refine ev_bind (keysAt_ev (f + (b.length : Int)) d (by omega) (by omega) (by omega)) ?_
            simp only [keysL_len, if_pos (show b.length + d.length < 8796093022208 by omega), if_true, outbox_Next.f, e2, e4, Option.bind_some]
            refine ev_bind (keys_ev f (b ++ d) (by omega) (by omega) (by omega)) ?_
            rw [← hkk]
            refine ev_bind hs2 ?_
            simp only [if_true, right_f f (b ++ d) (by omega) (by omega), Option.bind_some, decide_eq_true hok2]
            exact ev_some _
      · simp only [if_neg h]
        exact ev_some _

end Go.Proofs.Ytdbfclfglpbpmaa.Pure
