/- A disk's small methods. No condition. -/
import Derived.Test.YtdbfclfglpbpmaaDskA
namespace Go.Proofs.Ytdbfclfglpbpmaa.Dsk
open Go.AnyFacts Go.Proofs.Ytdbfclfglpbpmaa.Sha Go.RowKit Go.Proofs.YtdbfclfglpbpmaaW.Hand Go.Proofs.YtdbfclfglpbpmaaW.PrintWords Go.Proofs.YtdbfclfglpbpmaaW.PrintLast Go.Proofs.YtdbfclfglpbpmaaW.PrintMore Go.Proofs.Ytdbfclfglpbpmaa.PF21 Go.Proofs.Ytdbfclfglpbpmaa.Base Go.Proofs.Ytdbfclfglpbpmaa.LF21
attribute [local go_sem] max2_int min2_int max_two min_two max_three min_three max_four min_four
set_option linter.unusedVariables false
set_option linter.unusedSimpArgs false
set_option maxHeartbeats 8000000 in
set_option maxRecDepth 100000 in
theorem DSt.there {B M0 g : Nat} {bv dv wv : Value} {bl : List (List Int)} {wt : List S154} {bad : List Int} {down : Bool} {left : Int} {w : World} (s : DSt B M0 g bv dv wv bl wt bad down left w) (n : Int) : Calls Try.prog 77 #[.pointer (some ⟨g, 0, none⟩), .int .i64 n] w fun e w' => e = .returned (.bool (decide (0 ≤ n ∧ n < (bl.length : Int)))) ∧ Below w.heap.size w w' := by
  obtain ⟨A, c, e⟩ := Kd.S_slice s.blocks
  have hx0 : w.cell? ⟨g, 0, none⟩ = some (.slice A bl.length c) := by rw [s.cell0, e]
  clear s e
  by_cases h0 : n ≥ 0
  · have h1 : decide (n ≥ 0) = true := decide_eq_true h0
    have h2 : decide (0 ≤ n ∧ n < (bl.length : Int)) = decide (n < (bl.length : Int)) := by rw [Bool.eq_iff_iff, decide_eq_true_iff, decide_eq_true_iff]; omega
    rw [h2]
    clear h0 h2
    go_enter Try.func77, Try.ntmps77
    go_wp2
    go_ret
    exact ⟨rfl, by with_reducible repeat (first | exact Below.refl _ _ | apply below_drew | apply pw_below_drewN)⟩
  · have h1 : decide (n ≥ 0) = false := decide_eq_false h0
    have h2 : decide (0 ≤ n ∧ n < (bl.length : Int)) = false := decide_eq_false (by omega)
    rw [h2]
    clear h0 h2
    go_enter Try.func77, Try.ntmps77
    go_wp2
    go_ret
    exact ⟨rfl, by with_reducible repeat (first | exact Below.refl _ _ | apply below_drew | apply pw_below_drewN)⟩
set_option maxHeartbeats 8000000 in
set_option maxRecDepth 100000 in
theorem DSt.Blocks {B M0 g : Nat} {bv dv wv : Value} {bl : List (List Int)} {wt : List S154} {bad : List Int} {down : Bool} {left : Int} {w : World} (s : DSt B M0 g bv dv wv bl wt bad down left w) : Calls Try.prog 84 #[.pointer (some ⟨g, 0, none⟩)] w fun e w' => e = .returned (.int .i64 (bl.length : Int)) ∧ Below w.heap.size w w' := by
  obtain ⟨A, c, e⟩ := Kd.S_slice s.blocks
  have hx0 : w.cell? ⟨g, 0, none⟩ = some (.slice A bl.length c) := by rw [s.cell0, e]
  clear s e
  go_enter Try.func84, Try.ntmps84
  go_wp2
  go_ret
  exact ⟨rfl, by with_reducible repeat (first | exact Below.refl _ _ | apply below_drew | apply pw_below_drewN)⟩
set_option maxHeartbeats 8000000 in
set_option maxRecDepth 100000 in
theorem DSt.Waits {B M0 g : Nat} {bv dv wv : Value} {bl : List (List Int)} {wt : List S154} {bad : List Int} {down : Bool} {left : Int} {w : World} (s : DSt B M0 g bv dv wv bl wt bad down left w) : Calls Try.prog 86 #[.pointer (some ⟨g, 0, none⟩)] w fun e w' => e = .returned (.int .i64 (wt.length : Int)) ∧ Below w.heap.size w w' := by
  obtain ⟨A, c, e⟩ := Kd.R_slice s.waits
  have hx0 : w.cell? ⟨g, 1, none⟩ = some (.slice A wt.length c) := by rw [s.cell1, e]
  clear s e
  go_enter Try.func86, Try.ntmps86
  go_wp2
  go_ret
  exact ⟨rfl, by with_reducible repeat (first | exact Below.refl _ _ | apply below_drew | apply pw_below_drewN)⟩
set_option maxHeartbeats 8000000 in
set_option maxRecDepth 100000 in
theorem DSt.Up {B M0 g : Nat} {bv dv wv : Value} {bl : List (List Int)} {wt : List S154} {bad : List Int} {down : Bool} {left : Int} {w : World} (s : DSt B M0 g bv dv wv bl wt bad down left w) : Calls Try.prog 85 #[.pointer (some ⟨g, 0, none⟩)] w fun e w' => e = .returned (.bool (!down)) ∧ Below w.heap.size w w' := by
  have hx0 := s.cell3
  clear s
  go_enter Try.func85, Try.ntmps85
  go_wp2
  go_ret
  exact ⟨rfl, by with_reducible repeat (first | exact Below.refl _ _ | apply below_drew | apply pw_below_drewN)⟩
set_option maxHeartbeats 8000000 in
set_option maxRecDepth 100000 in
theorem DSt.Cut {B M0 g : Nat} {bv dv wv : Value} {bl : List (List Int)} {wt : List S154} {bad : List Int} {down : Bool} {left : Int} {w : World} (s : DSt B M0 g bv dv wv bl wt bad down left w) (n : Int) : Calls Try.prog 48 #[.pointer (some ⟨g, 0, none⟩), .int .i64 n] w fun e w' => e = .returned (.tuple #[]) ∧ DSt B M0 g bv dv wv bl wt bad down (mx n 0) w' ∧ Stp B M0 g dv wv w w' := by
  have hf0 : w.frozen? ⟨g, 4, none⟩ = false := blk_frozen s.blk 4
  have hx0 := s.cell4
  have HS := Aside0.mk s
  clear s
  unfold mx
  by_cases h : n < 0
  · rw [if_pos h]
    replace h := eq_true h
    go_enter Try.func48, Try.ntmps48
    go_wp2
    first | ((try simp only [Exit.inBlock, Exit.then]); refine bodyPost_ret (results_none rfl _ _ _) rfl ?_) | go_end0
    exact ⟨rfl, HS.out.set 4 _ rfl HS.out.waits, (Stp.refl B M0 g dv wv w).setg HS.out.gB.1 4 _⟩
  · rw [if_neg h]
    replace h := eq_false h
    go_enter Try.func48, Try.ntmps48
    go_wp2
    first | ((try simp only [Exit.inBlock, Exit.then]); refine bodyPost_ret (results_none rfl _ _ _) rfl ?_) | go_end0
    exact ⟨rfl, HS.out.set 4 _ rfl HS.out.waits, (Stp.refl B M0 g dv wv w).setg HS.out.gB.1 4 _⟩

end Go.Proofs.Ytdbfclfglpbpmaa.Dsk
