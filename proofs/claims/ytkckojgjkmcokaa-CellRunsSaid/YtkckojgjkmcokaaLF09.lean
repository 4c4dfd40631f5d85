/- Plain lemmas on the functions of this family (CellRuns): what each loop comes to. No condition. -/
import Derived.Test.YtkckojgjkmcokaaBase
import Derived.Test.YtkckojgjkmcokaaPF09x
namespace Go.Proofs.Ytkckojgjkmcokaa.LF09
open Go.RowKit Go.Proofs.Ytkckojgjkmcokaa.Base Go.Proofs.YtkckojgjkmcokaaW.PrintWords Go.Proofs.YtkckojgjkmcokaaW.PrintMore Go.Proofs.Ytkckojgjkmcokaa.PF09
set_option linter.unusedVariables false
set_option linter.unusedSimpArgs false

/-! ### cells and runs of cells -/
theorem rd53 (l : List S53) (i : Nat) (h : i < l.length) : rd_T53 l (i : Int) = l[i] := by
  unfold rd_T53
  simp [List.getD_eq_getElem?_getD, h]
theorem eqc (a b : S53) : (a.f0 == b.f0 && (a.f1.f0 == b.f1.f0 && (a.f1.f1 == b.f1.f1 && (a.f1.f2 == b.f1.f2)))) = true ↔ a = b := by
  obtain ⟨a0, a1, a2, a3⟩ := a
  obtain ⟨b0, b1, b2, b3⟩ := b
  simp
theorem eqc_ne {a b : S53} (h : a ≠ b) : (a.f0 == b.f0 && (a.f1.f0 == b.f1.f0 && (a.f1.f1 == b.f1.f1 && (a.f1.f2 == b.f1.f2)))) = false := Bool.eq_false_iff.2 (fun e => h ((eqc a b).1 e))
theorem neqc (a b : S53) : (!(a.f0 == b.f0) || (!(a.f1.f0 == b.f1.f0) || (!(a.f1.f1 == b.f1.f1) || !(a.f1.f2 == b.f1.f2)))) = true ↔ a ≠ b := by
  rw [← Bool.not_and, ← Bool.not_and, ← Bool.not_and, Bool.not_eq_true', Bool.eq_false_iff]
  exact not_congr (eqc a b)
theorem neqc_self (a : S53) : (!(a.f0 == a.f0) || (!(a.f1.f0 == a.f1.f0) || (!(a.f1.f1 == a.f1.f1) || !(a.f1.f2 == a.f1.f2)))) = false := by simp
theorem CSame_l0 (a : List S53) (hl : a.length ≤ 9000000000000000000) : ∀ (d i : Nat), a.length - i = d → i ≤ a.length → Ev (fun k => batonref09_Same.l0 k a a (i : Int)) true := by
  intro d
  induction d with
  | zero =>
    intro i hd hi
    obtain rfl : i = a.length := by omega
    apply ev_succ
    simp only [batonref09_Same.l0, if_neg (show ¬ ((a.length : Int) < (a.length : Int)) by omega)]
    exact ev_some _
  | succ d ih =>
    intro i hd hi
    have hlt : i < a.length := by omega
    have hw : wrap64 ((i : Int) + 1) = ((i + 1 : Nat) : Int) := by rw [w64 (by omega) (by omega)]; omega
    apply ev_succ
    simp only [batonref09_Same.l0, if_pos (show (i : Int) < (a.length : Int) by omega), if_pos (show (0 : Int) ≤ (i : Int) by omega), rd53 a i hlt, hw, neqc_self, Bool.false_eq_true, if_false]
    exact ih (i + 1) (by omega) (by omega)
theorem CSame_ev (a : List S53) (hl : a.length ≤ 9000000000000000000) : Ev (fun k => batonref09_Same.f k a a) true := by
  unfold batonref09_Same.f
  simp only [if_true]
  exact CSame_l0 a hl a.length 0 (by omega) (by omega)
theorem awake09_runs : cell_Runs.f 8 [(⟨97, (⟨0, 0, 0⟩ : S51)⟩ : S53), (⟨97, (⟨0, 0, 0⟩ : S51)⟩ : S53), (⟨98, (⟨0, 0, 0⟩ : S51)⟩ : S53)] = some [(⟨2,(⟨97, (⟨0, 0, 0⟩ : S51)⟩ : S53)⟩ : S55), (⟨1, (⟨98, (⟨0, 0, 0⟩ : S51)⟩ : S53)⟩ : S55)] := by
  simp [cell_Runs.f, cell_Runs.l0, rd_T53, rd_T55, wrap64]
theorem awake09 : Ev (fun k => batonlaw09_awake.f k) true := Ev.of (fun k => batonlaw09_awake.mono k) (k := 8) (by unfold batonlaw09_awake.f; rw [awake09_runs]; decide)

end Go.Proofs.Ytkckojgjkmcokaa.LF09
