/- The law WordTurns, of plain numbers: Rot is the reference's turn, and turned on by the rest of 32 it is the identity. No condition beside the sizes that the row itself gives. -/
import Derived.Test.YtaiiegbhbadciaaLF01
namespace Go.Proofs.Ytaiiegbhbadciaa.Pure
open Go.RowKit Go.Proofs.Ytaiiegbhbadciaa.Base Go.Proofs.YtaiiegbhbadciaaW.PrintWords Go.Proofs.YtaiiegbhbadciaaW.PrintMore Go.Proofs.Ytaiiegbhbadciaa.PF01
set_option linter.unusedVariables false
set_option linter.unusedSimpArgs false
open Go.Proofs.Ytaiiegbhbadciaa.LF01

theorem WordTurns : batonlaw01_WordTurns.Pure := by
  intro x n hx hn
  have bx := bounds_u32 hx
  have bn := bounds_i64 hn
  refine Ev.rounds ?_
  have key : Ev (fun k => batonlaw01_WordTurns.j0 k x n (n % 32)) true := by
    obtain ⟨s, hs⟩ := Int.eq_ofNat_of_zero_le (show 0 ≤ n % 32 by omega)
    have hs32 : s < 32 := by omega
    apply ev_succ
    simp only [batonlaw01_WordTurns.j0]
    refine ev_bind1 (Rot_eq x n bx.1 bx.2 bn.1 bn.2) ?_
    rw [hs, Int.toNat_natCast]
    refine ev_bind (refRot_ev x s hs32 bx.1 bx.2) ?_
    simp only [if_true]
    have r := rotS_range hs32 bx.1 bx.2
    refine ev_bind1 (Rot_eq x (s : Int) bx.1 bx.2 (by omega) (by omega)) ?_
    have e1 : ((s : Int) % 32).toNat = s := by omega
    rw [e1, w64 (by omega) (by omega)]
    refine ev_bind1 (Rot_eq (rotS x s) (32 - (s : Int)) r.1 r.2 (by omega) (by omega)) ?_
    refine ev_eq (ev_some _) ?_
    by_cases e : s = 0
    · subst e
      simp [rotS]
    · rw [show ((32 - (s : Int)) % 32).toNat = 32 - s by omega, rotS_back hs32 e bx.1 bx.2]
      simp
  have ht := tmod32 n
  unfold batonlaw01_WordTurns.f
  refine ev_bind awake01 ?_
  simp only [if_true]
  by_cases c : Int.tmod n 32 < 0
  · simp only [if_pos c]
    rw [w64 (by split at ht <;> omega) (by split at ht <;> omega), show Int.tmod n 32 + 32 = n % 32 by split at ht <;> omega]
    exact key
  · simp only [if_neg c]
    rw [show Int.tmod n 32 = n % 32 by split at ht <;> omega]
    exact key

end Go.Proofs.Ytaiiegbhbadciaa.Pure
