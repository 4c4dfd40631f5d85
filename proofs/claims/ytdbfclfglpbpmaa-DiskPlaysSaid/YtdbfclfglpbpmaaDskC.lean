/- A disk: one operation more, what lies in a block, what it has. No condition. -/
import Derived.Test.YtdbfclfglpbpmaaDskB
namespace Go.Proofs.Ytdbfclfglpbpmaa.Dsk
open Go.AnyFacts Go.Proofs.Ytdbfclfglpbpmaa.Sha Go.RowKit Go.Proofs.YtdbfclfglpbpmaaW.Hand Go.Proofs.YtdbfclfglpbpmaaW.PrintWords Go.Proofs.YtdbfclfglpbpmaaW.PrintLast Go.Proofs.YtdbfclfglpbpmaaW.PrintMore Go.Proofs.Ytdbfclfglpbpmaa.PF21 Go.Proofs.Ytdbfclfglpbpmaa.Base Go.Proofs.Ytdbfclfglpbpmaa.LF21
attribute [local go_sem] max2_int min2_int max_two min_two max_three min_three max_four min_four
set_option linter.unusedVariables false
set_option linter.unusedSimpArgs false
theorem cell_below {W w1 : World} {a : Addr} {v : Value} (hb : Below W.heap.size W w1) (h : W.cell? a = some v) : w1.cell? a = some v := (hb.cell (World.block_lt_of_cell? W _ h)).trans h

theorem rdl {α : Type} {xs : List α} {i : Nat} (z : α) (h : i < xs.length) : xs.getD i z = xs[i] := by simp [List.getD_eq_getElem?_getD, h]
/-- What a block has behind the writes that wait. -/
def lastW (n : Int) : List S154 → List Int → List Int
  | [], b => b
  | x :: l, b => lastW n l (if x.f0 = n then x.f1 else b)
theorem lastW_append (n : Int) (l l' : List S154) (b : List Int) : lastW n (l ++ l') b = lastW n l' (lastW n l b) := by
  induction l generalizing b with
  | nil => rfl
  | cons x l ih => exact ih _
theorem lastW_none (n : Int) (l : List S154) (b : List Int) (h : ∀ x ∈ l, x.f0 ≠ n) : lastW n l b = b := by
  induction l with
  | nil => rfl
  | cons x l ih =>
    rw [lastW, if_neg (h x List.mem_cons_self)]
    exact ih (fun y hy => h y (List.mem_cons_of_mem _ hy))
theorem lastW_at (n : Int) (l : List S154) (b : List Int) (i : Nat) (hi : i < l.length) (h : l[i].f0 = n) (ht : ∀ j (hj : j < l.length), i < j → l[j].f0 ≠ n) : lastW n l b = l[i].f1 := by
  have e : l = l.take i ++ l[i] :: l.drop (i + 1) := by rw [← List.drop_eq_getElem_cons hi, List.take_append_drop]
  rw [show lastW n l b = lastW n (l.take i ++ l[i] :: l.drop (i + 1)) b from congrArg (fun l => lastW n l b) e, lastW_append, lastW, if_pos h]
  refine lastW_none _ _ _ (fun x hx => ?_)
  obtain ⟨j, hj, rfl⟩ := List.mem_iff_getElem.1 hx
  rw [List.getElem_drop]
  rw [List.length_drop] at hj
  exact ht _ (by omega) (by omega)
def dec (left : Int) : Int := if left > 0 then left - 1 else left
section
variable {B M0 g : Nat} {bv dv wv : Value} {bl : List (List Int)} {wt : List S154} {bad : List Int} {down : Bool} {left : Int} {w : World}
/-- A block's row. -/
theorem DSt.at (s : DSt B M0 g bv dv wv bl wt bad down left w) (i : Nat) (hi : i < bl.length) : ∃ ad cap A c, bv = .slice (some ad) bl.length cap ∧ w.cell? (ad.add i) = some (.slice A bl[i].length c) ∧ bl[i].length ≤ c ∧ Kd.C (Kd.int .u8) w A bl[i].length bl[i] := by
  obtain ⟨Ab, cb, e, hl, hC⟩ := Kd.S_reads s.blocks
  obtain ⟨ad, A0, c0, e1, h1, h2, h3⟩ := at_L2 hC (i : Int) (by omega) (by omega)
  have er : rd_L2 bl (i : Int) = bl[i] := rdl _ hi
  rw [er] at h1 h2 h3
  subst e1
  exact ⟨ad, cb, A0, c0, e, h1, h2, h3⟩
/-- A write that waits. -/
theorem DSt.wat (s : DSt B M0 g bv dv wv bl wt bad down left w) (i : Nat) (hi : i < wt.length) : ∃ ad cap A c, wv = .slice (some ad) wt.length cap ∧ w.cell? (ad.add (i * 2)) = some (.int .i64 wt[i].f0) ∧ w.cell? ⟨(ad.add (i * 2)).block, (ad.add (i * 2)).off + 1, none⟩ = some (.slice A wt[i].f1.length c) ∧ wt[i].f1.length ≤ c ∧ Kd.C (Kd.int .u8) w A wt[i].f1.length wt[i].f1 := by
  obtain ⟨Ab, cb, e, hl, hC⟩ := Kd.R_reads s.waits
  obtain ⟨ad, A0, c0, e1, h1, h2, h3, h4⟩ := at_T154 hC (i : Int) (by omega) (by omega)
  have er : rd_T154 wt (i : Int) = wt[i] := rdl _ hi
  rw [er] at h1 h2 h3 h4
  subst e1
  exact ⟨ad, cb, A0, c0, e, h1, h2, h3, h4⟩
end
set_option maxHeartbeats 8000000 in
set_option maxRecDepth 100000 in
theorem DSt.step0 {B M0 g : Nat} {bv dv wv : Value} {bl : List (List Int)} {wt : List S154} {bad : List Int} {down : Bool} {left : Int} {w : World} (s : DSt B M0 g bv dv wv bl wt bad down left w) (hl : left = 0) : Calls Try.prog 79 #[.pointer (some ⟨g, 0, none⟩)] w fun e w' => e = .returned (.bool false) ∧ DSt B M0 g bv dv wv bl wt bad true left w' ∧ Stp B M0 g dv wv w w' := by
  have hf0 : w.frozen? ⟨g, 3, none⟩ = false := blk_frozen s.blk 3
  have hx0 := s.cell4
  have hx3 := s.cell3
  have HS := Aside0.mk s
  clear s
  subst hl
  go_enter Try.func79, Try.ntmps79
  go_wp2
  go_ret
  exact ⟨rfl, HS.out.set 3 _ rfl HS.out.waits, (Stp.refl B M0 g dv wv w).setg HS.out.gB.1 3 _⟩
set_option maxHeartbeats 8000000 in
set_option maxRecDepth 100000 in
theorem DSt.step1 {B M0 g : Nat} {bv dv wv : Value} {bl : List (List Int)} {wt : List S154} {bad : List Int} {down : Bool} {left : Int} {w : World} (s : DSt B M0 g bv dv wv bl wt bad down left w) (hl : left ≠ 0) (hm : left ≤ 9223372036854775807) : Calls Try.prog 79 #[.pointer (some ⟨g, 0, none⟩)] w fun e w' => e = .returned (.bool true) ∧ DSt B M0 g bv dv wv bl wt bad down (dec left) w' ∧ Stp B M0 g dv wv w w' := by
  have hf0 : w.frozen? ⟨g, 4, none⟩ = false := blk_frozen s.blk 4
  have hx0 := s.cell4
  have hb : (left == 0) = false := by simpa using hl
  have HS := Aside0.mk s
  clear s hl
  unfold dec
  by_cases h : left > 0
  · rw [if_pos h]
    have hd : decide (left > 0) = true := decide_eq_true h
    have hw : wrap64 (left - 1) = left - 1 := by unfold wrap64; omega
    clear h hm
    go_enter Try.func79, Try.ntmps79
    go_wp2
    go_ret
    exact ⟨rfl, HS.out.set 4 _ rfl HS.out.waits, (Stp.refl B M0 g dv wv w).setg HS.out.gB.1 4 _⟩
  · rw [if_neg h]
    have hd : decide (left > 0) = false := decide_eq_false h
    clear h hm
    go_enter Try.func79, Try.ntmps79
    go_wp2
    go_ret
    exact ⟨rfl, HS.out, Stp.refl B M0 g dv wv w⟩
set_option maxHeartbeats 8000000 in
set_option maxRecDepth 100000 in
theorem DSt.Lies {B M0 g : Nat} {bv dv wv : Value} {bl : List (List Int)} {wt : List S154} {bad : List Int} {down : Bool} {left : Int} {w : World} (s : DSt B M0 g bv dv wv bl wt bad down left w) (n : Int) (i : Nat) (hn : n = (i : Int)) (hi : i < bl.length) (hlim : bl[i].length ≤ 1000) : Calls Try.prog 50 #[.pointer (some ⟨g, 0, none⟩), .int .i64 n] w fun e w' => ∃ v0 : Value, e = .returned v0 ∧ Kd.R (Kd.int .u8) 5 w' w.heap.size (fun _ => True) v0 bl[i] ∧ Below w.heap.size w w' := by
  obtain ⟨ad, cap, A, c, e, hx1, hc, hC⟩ := s.at i hi
  have hx0 : w.cell? ⟨g, 0, none⟩ = some (.slice (some ad) bl.length cap) := by rw [s.cell0, e]
  have hth : decide (0 ≤ n ∧ n < (bl.length : Int)) = true := decide_eq_true (by omega)
  have p1 := eq_true (show (0 : Int) ≤ n by omega)
  have q1 := eq_true (show n < (bl.length : Int) by omega)
  have HLIM := Aside0.mk (show bl[i].length < 140737488355328 by omega)
  generalize hbi : bl[i] = b at hx1 hc hC HLIM ⊢
  rw [show i = n.toNat by omega] at hx1
  have HS := Aside0.mk s
  have HC := Aside0.mk hC
  have HL := Aside0.mk hc
  have HX := Aside0.mk (And.intro hx0 hx1)
  clear s e hC hc hn hi hbi hlim hx0 hx1
  go_enter Try.func50, Try.ntmps50
  go_wp2_with (first
    | (go_at_call 77; refine (HS.out.there n).mono ?_; rintro e w2 ⟨rfl, hb⟩; have HB2 := Aside0.mk (below_step (Below.refl _ _) hb); have HS2 := Aside0.mk (HS.out.below hb); clear hb; rw [hth]; have hx0 := cell_below HB2.out HX.out.1; have hx1 := cell_below HB2.out HX.out.2)
    | (go_at_call 72; refine (slices_Clone_byte_byte.calls A c b b _ (Kd.C_below HC.out HB2.out) HL.out (by unfold slices_Clone_byte_byte.f; rw [if_pos HLIM.out])).mono ?_; rintro e w3 ⟨v0, rfl, hr, hb⟩; have HR3 := Aside0.mk (Kd.R_lower hr (below_size HB2.out)); have HB3 := Aside0.mk (below_step HB2.out hb); clear hr hb))
  go_ret
  exact ⟨_, rfl, HR3.out, HB3.out⟩
set_option maxHeartbeats 8000000 in
set_option maxRecDepth 100000 in
theorem DSt.Lies_none {B M0 g : Nat} {bv dv wv : Value} {bl : List (List Int)} {wt : List S154} {bad : List Int} {down : Bool} {left : Int} {w : World} (s : DSt B M0 g bv dv wv bl wt bad down left w) (n : Int) (hn : ¬ (0 ≤ n ∧ n < (bl.length : Int))) : Calls Try.prog 50 #[.pointer (some ⟨g, 0, none⟩), .int .i64 n] w fun e w' => e = .returned (.slice none 0 0) ∧ Below w.heap.size w w' := by
  have hth : decide (0 ≤ n ∧ n < (bl.length : Int)) = false := decide_eq_false hn
  have HS := Aside0.mk s
  clear s hn
  go_enter Try.func50, Try.ntmps50
  go_wp2_with (first
    | (go_at_call 77; refine (HS.out.there n).mono ?_; rintro e w2 ⟨rfl, hb⟩; have HB2 := Aside0.mk (below_step (Below.refl _ _) hb); have HS2 := Aside0.mk (HS.out.below hb); clear hb; (try rw [hth])))
  go_ret
  exact ⟨rfl, HB2.out⟩
set_option maxHeartbeats 8000000 in
set_option maxRecDepth 100000 in
theorem DSt.Read_down {B M0 g : Nat} {bv dv wv : Value} {bl : List (List Int)} {wt : List S154} {bad : List Int} {down : Bool} {left : Int} {w : World} (s : DSt B M0 g bv dv wv bl wt bad down left w) (hd : down = true) (n : Int) : Calls Try.prog 54 #[.pointer (some ⟨g, 0, none⟩), .int .i64 n] w fun e w' => e = .returned (.tuple #[.slice none 0 0, .int .i64 19]) ∧ Below w.heap.size w w' := by
  have hx0 := s.cell3
  rw [hd] at hx0
  clear s hd
  go_enter Try.func54, Try.ntmps54
  go_wp2
  go_ret2
  exact ⟨rfl, by with_reducible repeat (first | exact Below.refl _ _ | apply below_drew | apply pw_below_drewN)⟩
set_option maxHeartbeats 8000000 in
set_option maxRecDepth 100000 in
theorem DSt.Read_none {B M0 g : Nat} {bv dv wv : Value} {bl : List (List Int)} {wt : List S154} {bad : List Int} {down : Bool} {left : Int} {w : World} (s : DSt B M0 g bv dv wv bl wt bad down left w) (hd : down = false) (n : Int) (hn : ¬ (0 ≤ n ∧ n < (bl.length : Int))) : Calls Try.prog 54 #[.pointer (some ⟨g, 0, none⟩), .int .i64 n] w fun e w' => e = .returned (.tuple #[.slice none 0 0, .int .i64 1]) ∧ Below w.heap.size w w' := by
  have hth : decide (0 ≤ n ∧ n < (bl.length : Int)) = false := decide_eq_false hn
  have hx0 := s.cell3
  rw [hd] at hx0
  have HS := Aside0.mk s
  clear s hn hd
  go_enter Try.func54, Try.ntmps54
  go_wp2_with (first
    | (go_at_call 77; refine (HS.out.there n).mono ?_; rintro e w2 ⟨rfl, hb⟩; have HB2 := Aside0.mk (below_step (Below.refl _ _) hb); have HS2 := Aside0.mk (HS.out.below hb); clear hb; (try rw [hth])))
  go_ret2
  exact ⟨rfl, HB2.out⟩
set_option maxHeartbeats 8000000 in
set_option maxRecDepth 100000 in
theorem DSt.Read {B M0 g : Nat} {bv dv wv : Value} {bl : List (List Int)} {wt : List S154} {bad : List Int} {down : Bool} {left : Int} {w : World} (s : DSt B M0 g bv dv wv bl wt bad down left w) (hd : down = false) (n : Int) (i : Nat) (hn : n = (i : Int)) (hi : i < bl.length) (hlim : bl[i].length ≤ 1000) (hwt : wt.length ≤ 1000) (hwl : ∀ x ∈ wt, x.f1.length ≤ 1000) : Calls Try.prog 54 #[.pointer (some ⟨g, 0, none⟩), .int .i64 n] w fun e w' => ∃ v0 : Value, e = .returned (.tuple #[v0, .int .i64 0]) ∧ Kd.R (Kd.int .u8) 5 w' w.heap.size (fun _ => True) v0 (lastW n wt bl[i]) ∧ Below w.heap.size w w' := by
  have hth : decide (0 ≤ n ∧ n < (bl.length : Int)) = true := decide_eq_true (by omega)
  have hx3 := s.cell3
  rw [hd] at hx3
  obtain ⟨Aw, cw, ew⟩ := Kd.R_slice s.waits
  have hx1 : w.cell? ⟨g, 1, none⟩ = some (.slice Aw wt.length cw) := by rw [s.cell1, ew]
  obtain ⟨b0, hb0⟩ : ∃ b0, b0 = bl[i] := ⟨_, rfl⟩
  have HLI := Aside0.mk (fun (W : World) (hb : Below w.heap.size w W) => (s.below hb).Lies n i hn hi hlim)
  rw [← hb0] at HLI ⊢
  have hw0 : wrap64 ((wt.length : Int) - 1) = (wt.length : Int) - 1 := by unfold wrap64; omega
  have HWT := Aside0.mk hwt
  have HWL := Aside0.mk hwl
  have HX := Aside0.mk hx1
  have HS := Aside0.mk s
  have HE := Aside0.mk ew
  clear s hd hn hi hlim hwt hwl ew hb0
  go_enter Try.func54, Try.ntmps54
  go_wp2_with (first
    | (go_at_call 77; refine (HS.out.there n).mono ?_; rintro e w2 ⟨rfl, hb⟩; have HB2 := Aside0.mk (below_step (Below.refl _ _) hb); have HS2 := Aside0.mk (HS.out.below hb); clear hb; rw [hth]; have hx1 := cell_below HB2.out HX.out))
  have HW0 := Aside0.mk hw0
  clear hx1 hx3 hw0
  go_loopg [6] (wt.length + 1) (fun kq v6 wr => ∃ (z : Int) (j : Nat), v6 = .int .i64 z ∧ Aside0 (z = (j : Int) - 1 ∧ kq = j + 1 ∧ j ≤ wt.length ∧ ∀ q (hq : q < wt.length), j ≤ q → wt[q].f0 ≠ n) ∧ Aside0 (Below w.heap.size w wr))
  case atStart => exact ⟨_, wt.length, rfl, ⟨HW0.out, by omega, Nat.le_refl _, fun q hq h => absurd h (by omega)⟩, HB2⟩
  case round =>
    obtain ⟨z, j, rfl, HK, HB⟩ := hrel
    obtain ⟨hz, hk, hj, hno⟩ := HK.out
    cases gk with
    | zero => omega
    | succ k1 =>
      cases j with
      | zero =>
        have hib : decide (z ≥ 0) = false := decide_eq_false (by omega)
        have HNO := Aside0.mk hno
        clear hz hk hj hno HB2
        go_wp2_with (first
          | (go_at_call 50; refine (HLI.out _ (HB.out)).mono ?_; rintro e w3 ⟨v0, rfl, hr, hb⟩; have HR3 := Aside0.mk (Kd.R_lower hr (below_size HB.out)); have HB3 := Aside0.mk (below_step HB.out hb); clear hr hb))
        go_ret2
        refine ⟨_, rfl, ?_, HB3.out⟩
        rw [lastW_none n wt b0 (fun x hx => by obtain ⟨q, hq, rfl⟩ := List.mem_iff_getElem.1 hx; exact HNO.out q hq (by omega))]
        exact HR3.out
      | succ j =>
        have hib : decide (z ≥ 0) = true := decide_eq_true (by omega)
        obtain ⟨ad, cap, A, c, e1, h2, h3, hc, hC⟩ := (HS.out.below HB.out).wat j (by omega)
        have e3 := HE.out
        rw [e1] at e3
        injection e3 with e3 _ e4
        subst e3 e4
        have hx1 := cell_below HB.out HX.out
        have p1 := eq_true (show (0 : Int) ≤ z by omega)
        have q1 := eq_true (show z < (wt.length : Int) by omega)
        have hw1 : wrap64 (z - 1) = (j : Int) - 1 := by have := HWT.out; unfold wrap64; omega
        have hjz : j = z.toNat := by omega
        have HLIM := Aside0.mk (show wt[j].f1.length < 140737488355328 by have := HWL.out wt[j] (List.getElem_mem _); omega)
        have hAT := lastW_at n wt b0 j (by omega)
        have hxx : ∃ x, x = wt[j] := ⟨_, rfl⟩
        obtain ⟨x, hx⟩ := hxx
        rw [← hx] at h2 h3 hc hC HLIM hAT
        rw [hjz] at h2 h3
        have HC := Aside0.mk hC
        have HCL := Aside0.mk hc
        by_cases hq : x.f0 = n
        · have hqb : (x.f0 == n) = true := beq_iff_eq.mpr hq
          have hq2 : (n == n) = true := beq_self_eq_true n
          have HAT := Aside0.mk (hAT hq (fun q hq h => hno q hq (by omega)))
          clear hz hk hj hno HB2 hC hc hjz hw1 hx e1 hAT hq
          go_wp2_with (first
            | (go_at_call 72; refine (slices_Clone_byte_byte.calls A c x.f1 x.f1 _ (Kd.C_below HC.out (Below.refl _ _)) HCL.out (by unfold slices_Clone_byte_byte.f; rw [if_pos HLIM.out])).mono ?_; rintro e w3 ⟨v0, rfl, hr, hb⟩; have HR3 := Aside0.mk (Kd.R_lower hr (below_size HB.out)); have HB3 := Aside0.mk (below_step HB.out hb); clear hr hb))
          go_ret2
          exact ⟨_, rfl, by rw [HAT.out]; exact HR3.out, HB3.out⟩
        · have hqb : (x.f0 == n) = false := beq_eq_false_iff_ne.mpr hq
          have HNO := Aside0.mk (show ∀ q (hq : q < wt.length), j ≤ q → wt[q].f0 ≠ n from fun q hq' h => by
            by_cases e : q = j
            · subst e
              rw [← hx]
              exact hq
            · exact hno q hq' (by omega))
          have HW1 := Aside0.mk hw1
          have HZ := Aside0.mk (And.intro hz (And.intro hk hj))
          clear hz hk hj hno HB2 hC hc hjz hx e1 hAT hq HC HCL HLIM
          go_wp2
          go_roundg k1
          case measure => have := HZ.out; omega
          case rel => exact ⟨_, j, rfl, ⟨rfl, by have := HZ.out; omega, by have := HZ.out; omega, HNO.out⟩, HB⟩

end Go.Proofs.Ytdbfclfglpbpmaa.Dsk
