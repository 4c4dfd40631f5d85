/- The document's disk: its small functions over the state. No condition. -/
import Derived.Test.YtdbfclfglpbpmaaDskM
namespace Go.Proofs.Ytdbfclfglpbpmaa.Dsk
open Go.AnyFacts Go.Proofs.Ytdbfclfglpbpmaa.Sha Go.RowKit Go.Proofs.YtdbfclfglpbpmaaW.Hand Go.Proofs.YtdbfclfglpbpmaaW.PrintWords Go.Proofs.YtdbfclfglpbpmaaW.PrintLast Go.Proofs.YtdbfclfglpbpmaaW.PrintMore Go.Proofs.Ytdbfclfglpbpmaa.PF21 Go.Proofs.Ytdbfclfglpbpmaa.Base Go.Proofs.Ytdbfclfglpbpmaa.LF21
attribute [local go_sem] max2_int min2_int max_two min_two max_three min_three max_four min_four
set_option linter.unusedVariables false
set_option linter.unusedSimpArgs false

/-- The document's step: down, left, done. -/
def rstep (down cut : Bool) (left : Int) : Bool × Int × Bool := if cut then (if left = 0 then (true, left, false) else (down, left - 1, true)) else (down, left, true)
section
variable {P : Nat → Prop} {v0 v1 v2 : Value} {bl : List (List Int)} {ws : List S183} {bad : List Int} {down cut : Bool} {left : Int} {w : World}
theorem step_f (hl : 0 ≤ left ∧ left ≤ 9223372036854775807) : batonref21_step.f 1 bl ws bad down cut left = some (bl, ws, bad, (rstep down cut left).1, cut, (rstep down cut left).2.1, (rstep down cut left).2.2) := by
  unfold batonref21_step.f rstep
  cases cut with
  | true =>
    simp only [if_true]
    by_cases h : left = 0
    · subst h
      simp [batonref21_step.j0]
    · have hb : (left == 0) = false := beq_eq_false_iff_ne.mpr h
      have hw : wrap64 (left - 1) = left - 1 := by unfold wrap64; omega
      simp [batonref21_step.j0, hb, h, hw]
  | false => simp [batonref21_step.j0]
theorem RSt.step_ (s : RSt P v0 v1 v2 bl ws bad w) (hl : 0 ≤ left ∧ left ≤ 9223372036854775807) : Calls Try.prog 104 #[.agg (stC v0 v1 v2 down cut left)] w fun e w' => ∃ v0' v1' v2', e = .returned (.tuple #[.agg (stC v0' v1' v2' (rstep down cut left).1 cut (rstep down cut left).2.1), .bool (rstep down cut left).2.2]) ∧ RSt (fun k => P k ∨ w.heap.size ≤ k) v0' v1' v2' bl ws bad w' ∧ Below w.heap.size w w' := by
  obtain ⟨A0, c0, rfl⟩ := Kd.V_slice s.b
  obtain ⟨A1, c1, rfl⟩ := Kd.V_slice s.q
  obtain ⟨A2, c2, rfl⟩ := Kd.V_slice s.d
  refine (batonref21_step.calls 1 P A0 c0 bl P A1 c1 ws P A2 c2 bad down cut left _ _ _ _ _ _ _ w s.b s.q s.d (step_f hl)).mono ?_
  rintro e w' ⟨v0', v1', v2', rfl, h0, h1, h2, hb⟩
  exact ⟨v0', v1', v2', rfl, ⟨Kd.V_mono h0 (fun k hk => hk.imp (fun h => h.elim id (fun h => h.elim id id)) id), Kd.V_mono h1 (fun k hk => hk.imp (fun h => h.elim id (fun h => h.elim id id)) id), Kd.V_mono h2 (fun k hk => hk.imp (fun h => h.elim id (fun h => h.elim id id)) id)⟩, hb⟩
theorem RSt.there (s : RSt P v0 v1 v2 bl ws bad w) (n : Int) : Calls Try.prog 103 #[.agg (stC v0 v1 v2 down cut left), .int .i64 n] w fun e w' => e = .returned (.bool (decide (0 ≤ n ∧ n < (bl.length : Int)))) ∧ Below w.heap.size w w' := by
  obtain ⟨A0, c0, rfl⟩ := Kd.V_slice s.b
  obtain ⟨A1, c1, rfl⟩ := Kd.V_slice s.q
  obtain ⟨A2, c2, rfl⟩ := Kd.V_slice s.d
  obtain ⟨_, l0, f0⟩ := Kd.V_at s.b
  obtain ⟨_, l1, f1⟩ := Kd.V_at s.q
  obtain ⟨_, l2, f2⟩ := Kd.V_at s.d
  refine batonref21_There.calls A0 c0 bl A1 c1 ws A2 c2 bad down cut left n _ w (Kd.F_now f0) l0 (Kd.F_now f1) l1 (Kd.F_now f2) l2 ?_
  unfold batonref21_There.f
  by_cases h : n ≥ 0
  · rw [if_pos h]
    congr 1
    rw [Bool.eq_iff_iff, decide_eq_true_iff, decide_eq_true_iff]
    omega
  · rw [if_neg h]
    congr 1
    symm
    exact decide_eq_false (by omega)
theorem RSt.Cut (s : RSt P v0 v1 v2 bl ws bad w) (n : Int) : Calls Try.prog 82 #[.agg (stC v0 v1 v2 down cut left), .int .i64 n] w fun e w' => ∃ v0' v1' v2', e = .returned (.agg (stC v0' v1' v2' down true (mx n 0))) ∧ RSt (fun k => P k ∨ w.heap.size ≤ k) v0' v1' v2' bl ws bad w' ∧ Below w.heap.size w w' := by
  obtain ⟨A0, c0, rfl⟩ := Kd.V_slice s.b
  obtain ⟨A1, c1, rfl⟩ := Kd.V_slice s.q
  obtain ⟨A2, c2, rfl⟩ := Kd.V_slice s.d
  refine (batonref21_Cut.calls P A0 c0 bl P A1 c1 ws P A2 c2 bad down cut left n _ _ _ _ _ _ w s.b s.q s.d rfl).mono ?_
  rintro e w' ⟨v0', v1', v2', rfl, h0, h1, h2, hb⟩
  exact ⟨v0', v1', v2', rfl, ⟨Kd.V_mono h0 (fun k hk => hk.imp (fun h => h.elim id (fun h => h.elim id id)) id), Kd.V_mono h1 (fun k hk => hk.imp (fun h => h.elim id (fun h => h.elim id id)) id), Kd.V_mono h2 (fun k hk => hk.imp (fun h => h.elim id (fun h => h.elim id id)) id)⟩, hb⟩
/-- What a block has, as the document tells it. -/
def lastR (n : Int) : List S183 → List Int → List Int
  | [], b => b
  | x :: l, b => lastR n l (if x.f0 = n then x.f1 else b)
theorem Read_l0 (n : Int) (ws : List S183) (bl : List (List Int)) (bad : List Int) (down cut : Bool) (left : Int) (hw : ws.length ≤ 1000) : ∀ (d i : Nat) (b : List Int), ws.length - i = d → i ≤ ws.length → Ev (fun k => batonref21_Read.l0 k n b (i : Int) bl ws bad down cut left) (lastR n (ws.drop i) b, 0) := by
  intro d
  induction d with
  | zero =>
    intro i b hd hi
    obtain rfl : i = ws.length := by omega
    apply ev_succ
    simp only [batonref21_Read.l0, if_neg (show ¬ ((ws.length : Int) < (ws.length : Int)) by omega)]
    refine ev_eq (ev_some _) ?_
    rw [List.drop_length]
    rfl
  | succ d ih =>
    intro i b hd hi
    have hlt : i < ws.length := by omega
    have hwr : wrap64 ((i : Int) + 1) = ((i + 1 : Nat) : Int) := by rw [w64 (by omega) (by omega)]; omega
    have hrd : rd_T183 ws (i : Int) = ws[i] := rdl _ hlt
    apply ev_succ
    rw [List.drop_eq_getElem_cons hlt]
    by_cases h : ws[i].f0 = n
    · simp only [batonref21_Read.l0, if_pos (show (i : Int) < (ws.length : Int) by omega), if_pos (show (0 : Int) ≤ (i : Int) by omega), hrd, if_pos h, hwr, lastR]
      exact ih (i + 1) _ (by omega) (by omega)
    · simp only [batonref21_Read.l0, if_pos (show (i : Int) < (ws.length : Int) by omega), if_pos (show (0 : Int) ≤ (i : Int) by omega), hrd, if_neg h, hwr, lastR]
      exact ih (i + 1) _ (by omega) (by omega)
/-- Read, of a block that there is. -/
theorem RSt.Read (s : RSt P v0 v1 v2 bl ws bad w) (i : Nat) (hi : i < bl.length) (hw : ws.length ≤ 1000) : Calls Try.prog 87 #[.agg (stC v0 v1 v2 down cut left), .int .i64 (i : Int)] w fun e w' => ∃ vr, e = .returned (.tuple #[vr, .int .i64 (if down then 19 else 0)]) ∧ Kd.V (Kd.int .u8) 5 w' 0 (fun _ => True) vr (if down then [] else lastR (i : Int) ws bl[i]) ∧ Below w.heap.size w w' := by
  obtain ⟨A0, c0, rfl⟩ := Kd.V_slice s.b
  obtain ⟨A1, c1, rfl⟩ := Kd.V_slice s.q
  obtain ⟨A2, c2, rfl⟩ := Kd.V_slice s.d
  obtain ⟨_, l2, f2⟩ := Kd.V_at s.d
  obtain ⟨k, hk⟩ : ∃ k, batonref21_Read.f k bl ws bad down cut left (i : Int) = some (if down then [] else lastR (i : Int) ws bl[i], if down then 19 else 0) := by
    unfold batonref21_Read.f batonref21_There.f
    cases down with
    | true => exact ⟨0, by simp⟩
    | false =>
      obtain ⟨k, hk⟩ := (Read_l0 (i : Int) ws bl bad false cut left hw ws.length 0 bl[i] (by omega) (by omega)).rounds
      refine ⟨k, ?_⟩
      simp only [Bool.false_eq_true, if_false, if_pos (show (i : Int) ≥ 0 by omega), Option.bind_some, decide_eq_true (show (i : Int) < (bl.length : Int) by omega), if_true, if_pos (show (0 : Int) ≤ (i : Int) by omega), if_pos (show (i : Int) < (bl.length : Int) by omega)]
      rw [show rd_L2 bl (i : Int) = bl[i] from rdl _ hi]
      exact hk
  refine (batonref21_Read.calls k P A0 c0 bl P A1 c1 ws A2 c2 bad down cut left (i : Int) _ _ w s.b s.q (Kd.F_now f2) l2 hk).mono ?_
  rintro e w' ⟨vr, rfl, h0, hb⟩
  exact ⟨vr, rfl, Kd.V_mono h0 (fun _ _ => trivial), hb⟩
end
theorem info183 : (Try.prog.info? 183).map (fun i => (i.zero, i.size, i.bytes)) = some (some (.agg #[.int .i64 0, .slice none 0 0]), 2, 32) := by kernel_rfl

end Go.Proofs.Ytdbfclfglpbpmaa.Dsk
