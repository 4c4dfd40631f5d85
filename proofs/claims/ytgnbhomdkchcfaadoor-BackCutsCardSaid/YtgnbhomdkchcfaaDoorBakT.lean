/- Plain lemmas on the functions of the law BackCuts: what is cut from the end of any row is blank, and what is left does not end so. No condition. -/
import Derived.Test.YtgnbhomdkchcfaaDoorBase
import Derived.Test.YtgnbhomdkchcfaaDoorPF15x
namespace Go.Proofs.YtgnbhomdkchcfaaDoor.LF15
open Go.RowKit Go.Proofs.YtgnbhomdkchcfaaDoor.Base Go.Proofs.YtgnbhomdkchcfaaDoorW.PrintWords Go.Proofs.YtgnbhomdkchcfaaDoorW.PrintMore Go.Proofs.YtgnbhomdkchcfaaDoor.PF15
set_option linter.unusedVariables false
set_option linter.unusedSimpArgs false
/-! ### cells and runs of cells -/
theorem rd28 (l : List S28) (i : Nat) (h : i < l.length) : rd_T28 l (i : Int) = l[i] := by
  unfold rd_T28
  simp [List.getD_eq_getElem?_getD, h]
theorem eqc (a b : S28) : (a.f0 == b.f0 && (a.f1.f0 == b.f1.f0 && (a.f1.f1 == b.f1.f1 && (a.f1.f2 == b.f1.f2)))) = true ↔ a = b := by
  obtain ⟨a0, a1, a2, a3⟩ := a
  obtain ⟨b0, b1, b2, b3⟩ := b
  simp
theorem eqc_ne {a b : S28} (h : a ≠ b) : (a.f0 == b.f0 && (a.f1.f0 == b.f1.f0 && (a.f1.f1 == b.f1.f1 && (a.f1.f2 == b.f1.f2)))) = false := Bool.eq_false_iff.2 (fun e => h ((eqc a b).1 e))
theorem neqc (a b : S28) : (!(a.f0 == b.f0) || (!(a.f1.f0 == b.f1.f0) || (!(a.f1.f1 == b.f1.f1) || !(a.f1.f2 == b.f1.f2)))) = true ↔ a ≠ b := by
  rw [← Bool.not_and, ← Bool.not_and, ← Bool.not_and, Bool.not_eq_true', Bool.eq_false_iff]
  exact not_congr (eqc a b)
theorem neqc_self (a : S28) : (!(a.f0 == a.f0) || (!(a.f1.f0 == a.f1.f0) || (!(a.f1.f1 == a.f1.f1) || !(a.f1.f2 == a.f1.f2)))) = false := by simp

def blk : S28 := ⟨32, ⟨0, 0, 0⟩⟩
theorem eqb (a : S28) : (a.f0 == 32 && (a.f1.f0 == 0 && (a.f1.f1 == 0 && (a.f1.f2 == 0)))) = true ↔ a = blk := eqc a blk
theorem neqb (a : S28) : (!(a.f0 == 32) || (!(a.f1.f0 == 0) || (!(a.f1.f1 == 0) || !(a.f1.f2 == 0)))) = true ↔ a ≠ blk := neqc a blk
theorem neqb_self : (!(blk.f0 == 32) || (!(blk.f1.f0 == 0) || (!(blk.f1.f1 == 0) || !(blk.f1.f2 == 0)))) = false := by decide
/-- What a cut leaves. -/
def cutAt (l : List S28) (m : Nat) : Prop := m ≤ l.length ∧ (∀ (h : 0 < m) (h2 : m - 1 < l.length), l[m - 1] ≠ blk) ∧ ∀ i (h : i < l.length), m ≤ i → l[i] = blk
theorem Clone15 (l : List S28) (h : l.length ≤ 1000000) : api_Cell.f l = some l := by
  unfold api_Cell.f
  rw [if_pos (by omega)]
theorem Cut_l0 (l : List S28) (hl : l.length ≤ 1000000) : ∀ n, n ≤ l.length → (∀ i (h : i < l.length), n ≤ i → l[i] = blk) → ∃ m, cutAt l m ∧ Ev (fun k => back_Cut.l0 k l (n : Int)) (l.take m) := by
  intro n
  induction n with
  | zero =>
    intro _ hb
    refine ⟨0, ⟨by omega, fun h => absurd h (by omega), hb⟩, ?_⟩
    apply ev_succ
    simp only [back_Cut.l0, if_neg (show ¬ ((0 : Nat) : Int) > 0 by omega), if_pos (show (0 : Int) ≤ ((0 : Nat) : Int) by omega), if_pos (show ((0 : Nat) : Int) ≤ (l.length : Int) by omega), Int.toNat_natCast, Clone15 (l.take 0) (by simp), Option.bind_some]
    exact ev_some _
  | succ n ih =>
    intro hn hb
    have hlt : n < l.length := by omega
    have hw : wrap64 (((n + 1 : Nat) : Int) - 1) = ((n : Nat) : Int) := by rw [w64 (by omega) (by omega)]; omega
    by_cases he : l[n] = blk
    · obtain ⟨m, h1, h2⟩ := ih (by omega) (fun i h hi => by
        by_cases e : i = n
        · subst e; exact he
        · exact hb i h (by omega))
      refine ⟨m, h1, ?_⟩
      apply ev_succ
      simp only [back_Cut.l0, cell_Blank.f, Option.bind_some, if_pos (show ((n + 1 : Nat) : Int) > 0 by omega), hw, if_pos (show (0 : Int) ≤ (n : Int) by omega), if_pos (show (n : Int) < (l.length : Int) by omega), rd28 l n hlt, if_pos ((eqb _).2 he)]
      exact h2
    · refine ⟨n + 1, ⟨hn, fun _ _ => he, hb⟩, ?_⟩
      apply ev_succ
      simp only [back_Cut.l0, cell_Blank.f, Option.bind_some, if_pos (show ((n + 1 : Nat) : Int) > 0 by omega), hw, if_pos (show (0 : Int) ≤ (n : Int) by omega), if_pos (show (n : Int) < (l.length : Int) by omega), rd28 l n hlt, if_neg (fun h => he ((eqb _).1 h)), if_pos (show (0 : Int) ≤ ((n + 1 : Nat) : Int) by omega), if_pos (show ((n + 1 : Nat) : Int) ≤ (l.length : Int) by omega), Int.toNat_natCast, Clone15 (l.take (n + 1)) (by rw [List.length_take]; omega)]
      exact ev_some _
theorem Cut_ev (l : List S28) (hl : l.length ≤ 1000000) : ∃ m, cutAt l m ∧ Ev (fun k => back_Cut.f k l) (l.take m) := Cut_l0 l hl l.length (Nat.le_refl _) (fun i h hi => absurd h (by omega))
theorem Cuts_l0 (l : List S28) (hl : l.length ≤ 1000000) (m : Nat) (hm : cutAt l m) : ∀ (d i : Nat), l.length - i = d → i ≤ l.length → Ev (fun k => batonlaw15_BackCuts.l0 k l (l.take m) (i : Int)) true := by
  intro d
  induction d with
  | zero =>
    intro i hd hi
    obtain rfl : i = l.length := by omega
    apply ev_succ
    simp only [batonlaw15_BackCuts.l0, if_neg (show ¬ ((l.length : Int) < (l.length : Int)) by omega)]
    exact ev_some _
  | succ d ih =>
    intro i hd hi
    have hlt : i < l.length := by omega
    have hw : wrap64 ((i : Int) + 1) = ((i + 1 : Nat) : Int) := by rw [w64 (by omega) (by omega)]; omega
    have htl : (l.take m).length = m := by rw [List.length_take]; have := hm.1; omega
    apply ev_succ
    by_cases h : i < m
    · have e : (l.take m)[i]'(by omega) = l[i] := List.getElem_take
      simp only [batonlaw15_BackCuts.l0, htl, if_pos (show (i : Int) < (l.length : Int) by omega), if_pos (show (i : Int) < (m : Int) by omega), if_pos (show (0 : Int) ≤ (i : Int) by omega), rd28 l i hlt, rd28 (l.take m) i (by omega), e, neqc_self, Bool.false_eq_true, if_false, if_neg (show ¬ (i : Int) ≥ (m : Int) by omega), hw]
      exact ih (i + 1) (by omega) (by omega)
    · simp only [batonlaw15_BackCuts.l0, htl, if_pos (show (i : Int) < (l.length : Int) by omega), if_neg (show ¬ (i : Int) < (m : Int) by omega), if_pos (show (i : Int) ≥ (m : Int) by omega), if_pos (show (0 : Int) ≤ (i : Int) by omega), rd28 l i hlt, hm.2.2 i hlt (by omega), neqb_self, Bool.false_eq_true, if_false, hw]
      exact ih (i + 1) (by omega) (by omega)
theorem BackCuts_pure : batonlaw15_BackCuts.Pure := by
  intro l hl
  refine Ev.rounds ?_
  unfold batonlaw15_BackCuts.f batonlaw15_awake.f
  simp only [Option.bind_some, if_true]
  by_cases c1 : (l.length : Int) > 100
  · simp only [if_pos c1]
    exact ev_some _
  · simp only [if_neg c1]
    obtain ⟨m, hm, hev⟩ := Cut_ev l (by omega)
    refine ev_bind hev ?_
    have htl : (l.take m).length = m := by rw [List.length_take]; have := hm.1; omega
    have key : ∀ b : Bool, b = false → Ev (fun k => batonlaw15_BackCuts.j0 k l (l.take m) b) true := by
      intro b hb
      subst hb
      apply ev_succ
      simp only [batonlaw15_BackCuts.j0, Bool.false_eq_true, if_false]
      exact Cuts_l0 l (by omega) m hm l.length 0 (by omega) (by omega)
    have hml := hm.1
    simp only [htl, if_neg (show ¬ (m : Int) > (l.length : Int) by omega)]
    by_cases h0 : 0 < m
    · have hw : wrap64 ((m : Int) - 1) = ((m - 1 : Nat) : Int) := by rw [w64 (by omega) (by omega)]; omega
      simp only [if_pos (show (m : Int) > 0 by omega), hw, if_pos (show (0 : Int) ≤ ((m - 1 : Nat) : Int) by omega), if_pos (show ((m - 1 : Nat) : Int) < (m : Int) by omega)]
      refine key _ (Bool.eq_false_iff.2 (fun h => ?_))
      rw [rd28 (l.take m) (m - 1) (by omega), eqb] at h
      have e : (l.take m)[m - 1]'(by omega) = l[m - 1]'(by omega) := List.getElem_take
      rw [e] at h
      exact hm.2.1 h0 (by omega) h
    · simp only [if_neg (show ¬ (m : Int) > 0 by omega)]
      exact key _ rfl

end Go.Proofs.YtgnbhomdkchcfaaDoor.LF15
