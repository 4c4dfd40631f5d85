/- The law WordXor, of plain lists of numbers: what is added bit by bit twice is as it was, and of unlike lengths nothing is. No condition beside the sizes that the row itself gives. -/
import Derived.Test.YtaiiegbhbadciaaLF01
namespace Go.Proofs.Ytaiiegbhbadciaa.Pure
open Go.RowKit Go.Proofs.Ytaiiegbhbadciaa.Base Go.Proofs.YtaiiegbhbadciaaW.PrintWords Go.Proofs.YtaiiegbhbadciaaW.PrintMore Go.Proofs.Ytaiiegbhbadciaa.PF01
set_option linter.unusedVariables false
set_option linter.unusedSimpArgs false
open Go.Proofs.Ytaiiegbhbadciaa.LF01

theorem WordXor_l0 (a b : List Int) (h : a.length = b.length) (ha : Bytes a) (hb : Bytes b) (hl : a.length ≤ 300) : ∀ (d i : Nat), a.length - i = d → i ≤ a.length →
    Ev (fun k => batonlaw01_WordXor.l0 k a b (xorL a b) 0 (xorL (xorL a b) b) 0 (i : Int)) true := by
  intro d
  have hx := xorL_length h
  induction d with
  | zero =>
    intro i hd hi
    obtain rfl : i = a.length := by omega
    apply ev_succ
    simp only [batonlaw01_WordXor.l0, hx, if_neg (show ¬ ((a.length : Int) < (a.length : Int)) by omega), if_true]
    rw [xorL_twice h ha hb]
    exact ev_bind (Same_ev a a (by omega)) (ev_eq (ev_some _) (by simp))
  | succ d ih =>
    intro i hd hi
    have hlt : i < a.length := by omega
    have hltb : i < b.length := by omega
    have hltx : i < (xorL a b).length := by omega
    have hw : wrap64 ((i : Int) + 1) = ((i + 1 : Nat) : Int) := by rw [w64 (by omega) (by omega)]; omega
    have e := xorL_get i hltx hlt hltb
    apply ev_succ
    simp only [batonlaw01_WordXor.l0, if_pos (show (i : Int) < ((xorL a b).length : Int) by omega), if_pos (show (0 : Int) ≤ (i : Int) by omega), if_pos (show (i : Int) < (a.length : Int) by omega), if_pos (show (i : Int) < (b.length : Int) by omega), rd_lt hlt, rd_lt hltb, rd_lt hltx, hw, if_pos e]
    exact ih (i + 1) (by omega) (by omega)
theorem WordXor : batonlaw01_WordXor.Pure := by
  intro a b _ hla ha _ hlb hb
  refine Ev.rounds ?_
  unfold batonlaw01_WordXor.f
  refine ev_bind awake01 ?_
  simp only [if_true]
  by_cases c1 : (a.length : Int) > 300
  · simp only [if_pos c1]
    apply ev_succ
    simp only [batonlaw01_WordXor.j0, if_true]
    exact ev_some _
  · simp only [if_neg c1]
    apply ev_succ
    by_cases c2 : (b.length : Int) > 300
    · simp only [batonlaw01_WordXor.j0, decide_eq_true c2, if_true]
      exact ev_some _
    · simp only [batonlaw01_WordXor.j0, decide_eq_false c2, if_false, Bool.false_eq_true]
      by_cases c3 : a.length = b.length
      · refine ev_bind (Xor_ev a b c3 (by omega)) ?_
        have hx := xorL_length c3
        simp only [if_pos (show (a.length : Int) = (b.length : Int) by omega)]
        refine ev_bind (Xor_ev (xorL a b) b (by omega) (by omega)) ?_
        exact WordXor_l0 a b c3 (bytes_of ha) (bytes_of hb) (by omega) a.length 0 (by omega) (by omega)
      · refine ev_bind (a := (([] : List Int), 22)) ?_ ?_
        · unfold word_Xor.f
          simp only [if_neg (show ¬ ((a.length : Int) = (b.length : Int)) by omega)]
          exact ev_some _
        · simp only [if_neg (show ¬ ((a.length : Int) = (b.length : Int)) by omega), List.length_nil]
          exact ev_eq (ev_some _) (by decide)

end Go.Proofs.Ytaiiegbhbadciaa.Pure
