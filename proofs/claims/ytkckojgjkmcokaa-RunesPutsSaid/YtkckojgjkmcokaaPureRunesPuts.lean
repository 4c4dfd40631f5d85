/- The law RunesPuts, of plain lists: what is told of any bytes, one by one, how many wait, and what is told at the end, is what the page says. No condition beside the sizes that the row itself gives. -/
import Derived.Test.YtkckojgjkmcokaaLF08
namespace Go.Proofs.Ytkckojgjkmcokaa.Pure
open Go.RowKit Go.Proofs.Ytkckojgjkmcokaa.Base Go.Proofs.YtkckojgjkmcokaaW.PrintWords Go.Proofs.YtkckojgjkmcokaaW.PrintMore Go.Proofs.Ytkckojgjkmcokaa.PF08
set_option linter.unusedVariables false
set_option linter.unusedSimpArgs false
open Go.Proofs.Ytkckojgjkmcokaa.LF08

theorem lsame_l0 (a b : List Int) (h : a = b) (hl : a.length ≤ 1000000) (hr : ∀ x ∈ a, wrap64 x = x) : ∀ (d i : Nat), a.length - i = d → i ≤ a.length → Ev (fun k => batonlaw08_same.l0 k a b (i : Int)) true := by
  subst h
  intro d
  induction d with
  | zero =>
    intro i hd hi
    obtain rfl : i = a.length := by omega
    apply ev_succ
    simp only [batonlaw08_same.l0, if_neg (show ¬ ((a.length : Int) < (a.length : Int)) by omega)]
    exact ev_some _
  | succ d ih =>
    intro i hd hi
    have hlt : i < a.length := by omega
    have hw : wrap64 ((i : Int) + 1) = ((i + 1 : Nat) : Int) := by rw [w64 (by omega) (by omega)]; omega
    apply ev_succ
    simp only [batonlaw08_same.l0, if_pos (show (i : Int) < (a.length : Int) by omega), if_pos (show (0 : Int) ≤ (i : Int) by omega), rd_lt hlt, hr _ (List.getElem_mem hlt), if_true, hw]
    exact ih (i + 1) (by omega) (by omega)
theorem lsame_ev (a : List Int) (hl : a.length ≤ 1000000) (hr : ∀ x ∈ a, wrap64 x = x) : Ev (fun k => batonlaw08_same.f k a a) true := by
  unfold batonlaw08_same.f
  simp only [if_true]
  exact lsame_l0 a a rfl hl hr a.length 0 (by omega) (by omega)
theorem cp_le : ∀ x, Bytes x → cp x ≤ 1000000000
  | [], _ => by show (0 : Int) ≤ _; omega
  | [a], h => by have := h a (by simp); show a ≤ _; omega
  | [a, b], h => by have := h a (by simp); have := h b (by simp); show (a - 192) * 64 + b - 128 ≤ _; omega
  | [a, b, c], h => by have := h a (by simp); have := h b (by simp); have := h c (by simp); show ((a - 224) * 64 + b - 128) * 64 + c - 128 ≤ _; omega
  | [a, b, c, d], h => by have := h a (by simp); have := h b (by simp); have := h c (by simp); have := h d (by simp); show (((a - 240) * 64 + b - 128) * 64 + c - 128) * 64 + d - 128 ≤ _; omega
  | _ :: _ :: _ :: _ :: _ :: _, _ => by show (0 : Int) ≤ _; omega
theorem refPut_rng (W : List Int) (hB : Bytes W) (b : Int) (hb : 0 ≤ b ∧ b ≤ 255) : ∀ x ∈ (refPut W b).2, wrap64 x = x := by
  have hB2 : Bytes (W ++ [b]) := hB.append (fun x hx => by simp at hx; omega)
  have r1 : ∀ x ∈ (ref1 b).2, wrap64 x = x := by
    intro x hx
    unfold ref1 at hx
    split at hx
    · simp at hx
      exact w64 (by omega) (by omega)
    · split at hx
      · simp at hx
      · simp at hx
        exact w64 (by omega) (by omega)
  intro x hx
  unfold refPut at hx
  split at hx
  · rename_i h
    simp only [List.mem_singleton] at hx
    have h1 := cp_le _ hB2
    have h2 := cp_nonneg _ hB2 h
    exact w64 (by omega) (by omega)
  · split at hx
    · simp at hx
    · split at hx
      · simp at hx
        exact w64 (by omega) (by omega)
      · rcases List.mem_cons.1 hx with hx | hx
        · exact w64 (by omega) (by omega)
        · exact r1 x hx
theorem Puts_l0 (l : List Int) (hl : l.length ≤ 100) (hB : Bytes l) : ∀ (d i : Nat) (W : List Int), l.length - i = d → i ≤ l.length → (W = [] ∨ beg W) → Bytes W → Ev (fun k => batonlaw08_RunesPuts.l0 k l W (i : Int) (st W).1 (st W).2.1 (st W).2.2.1 (st W).2.2.2.1 (st W).2.2.2.2) true := by
  intro d
  induction d with
  | zero =>
    intro i W hd hi hW hBW
    obtain rfl : i = l.length := by omega
    apply ev_succ
    simp only [batonlaw08_RunesPuts.l0, if_neg (show ¬ ((l.length : Int) < (l.length : Int)) by omega), End_f W hW, Option.bind_some]
    by_cases c : W = []
    · simp only [if_pos c, st5, if_pos (show (W.length : Int) = 0 by rw [c]; rfl)]
      exact ev_some _
    · have hn : ¬ (W.length : Int) = 0 := by have := List.length_pos_iff.2 c; omega
      simp only [if_neg c, st5, if_neg hn, List.length_singleton, runes_Decoder_Waits.f, Option.bind_some, if_true, if_pos (show ((1 : Nat) : Int) = 1 from rfl), if_pos (show (0 : Int) < ((1 : Nat) : Int) by decide), if_pos (show rd [65533] 0 = 65533 from rfl), runes_Decoder_End.f]
      exact ev_some _
  | succ d ih =>
    intro i W hd hi hW hBW
    have hlt : i < l.length := by omega
    have hw : wrap64 ((i : Int) + 1) = ((i + 1 : Nat) : Int) := by rw [w64 (by omega) (by omega)]; omega
    have hb := hB l[i] (List.getElem_mem hlt)
    obtain ⟨h1, h2⟩ := refPut_inv W hBW l[i] hb
    have hlen := refPut_len W l[i]
    apply ev_succ
    simp only [batonlaw08_RunesPuts.l0, if_pos (show (i : Int) < (l.length : Int) by omega), if_pos (show (0 : Int) ≤ (i : Int) by omega), rd_lt hlt]
    refine ev_bind (Put_ev W hBW (inv_len hW) l[i] hb) (ev_bind (DPut_ev W hW hBW l[i] hb) ?_)
    simp only [st5]
    refine ev_bind (lsame_ev _ (by omega) (refPut_rng W hBW l[i] hb)) ?_
    simp only [if_true, runes_Decoder_Waits.f, Option.bind_some, (st_need _ h1).2, hw]
    rw [← (st_need _ h1).2]
    exact ih (i + 1) _ (by omega) (by omega) h1 h2
theorem RunesPuts : batonlaw08_RunesPuts.Pure := by
  intro l _ _ hb
  refine Ev.rounds ?_
  unfold batonlaw08_RunesPuts.f
  refine ev_bind awake08 ?_
  simp only [if_true]
  by_cases c : (l.length : Int) > 100
  · simp only [if_pos c]
    exact ev_some _
  · simp only [if_neg c]
    exact Puts_l0 l (by omega) (bytes_of hb) l.length 0 [] (by omega) (by omega) (.inl rfl) (fun x hx => by simp at hx)

end Go.Proofs.Ytkckojgjkmcokaa.Pure
