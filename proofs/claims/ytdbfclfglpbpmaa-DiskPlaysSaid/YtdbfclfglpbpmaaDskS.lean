/- The disk and the document's, side by side. No condition. -/
import Derived.Test.YtdbfclfglpbpmaaDskR
namespace Go.Proofs.Ytdbfclfglpbpmaa.Dsk
open Go.AnyFacts Go.Proofs.Ytdbfclfglpbpmaa.Sha Go.RowKit Go.Proofs.YtdbfclfglpbpmaaW.Hand Go.Proofs.YtdbfclfglpbpmaaW.PrintWords Go.Proofs.YtdbfclfglpbpmaaW.PrintLast Go.Proofs.YtdbfclfglpbpmaaW.PrintMore Go.Proofs.Ytdbfclfglpbpmaa.PF21 Go.Proofs.Ytdbfclfglpbpmaa.Base Go.Proofs.Ytdbfclfglpbpmaa.LF21
attribute [local go_sem] max2_int min2_int max_two min_two max_three min_three max_four min_four
set_option linter.unusedVariables false
set_option linter.unusedSimpArgs false

def dl (cut : Bool) (left : Int) : Int := if cut then left else -1
/-- Where the document's rows may lie: where Q holds (no box), and nothing that the disk writes. -/
def Of (B M0 g : Nat) (dv wv : Value) (Q : Nat → Prop) (k : Nat) : Prop := Q k ∧ ¬ Mut B M0 g dv wv k
/-- The disk, and the document's state. -/
structure Two (B M0 g : Nat) (bv dv wv : Value) (bl : List (List Int)) (wt : List S154) (bad : List Int) (down : Bool) (left : Int) (Q : Nat → Prop) (v0 v1 v2 : Value) (bl2 : List (List Int)) (ws : List S183) (wr : World) : Prop where
  st : DSt B M0 g bv dv wv bl wt bad down left wr
  rf : RSt (Of B M0 g dv wv Q) v0 v1 v2 bl2 ws bad wr
  new : ∀ k, wr.heap.size ≤ k → Q k
section
variable {B M0 g : Nat} {Q : Nat → Prop} {bv dv wv wv' v0 v1 v2 : Value} {bl bl2 bl' : List (List Int)} {wt wt' : List S154} {ws ws' : List S183} {bad : List Int} {down cut down' cut' : Bool} {left left' : Int} {W wr w1 : World} {v : Value}
theorem DSt.mut_lt (s : DSt B M0 g bv dv wv bl wt bad down left wr) {k : Nat} (h : Mut B M0 g dv wv k) : k < wr.heap.size := by
  have hg := s.gB
  rcases h with rfl | h | h
  · omega
  · have := h.2.1; omega
  · exact Kd.R_lt s.waits k h.symm
theorem Two.later (t : Two B M0 g bv dv wv bl wt bad down left Q v0 v1 v2 bl2 ws wr) (hb : Below wr.heap.size wr w1) : Two B M0 g bv dv wv bl wt bad down left Q v0 v1 v2 bl2 ws w1 := ⟨t.st.below hb, t.rf.below hb, fun k hk => t.new k (Nat.le_trans hb.size hk)⟩
/-- An operation of the disk's. -/
theorem Two.dstep (t : Two B M0 g bv dv wv bl wt bad down left Q v0 v1 v2 bl2 ws wr) (hs : DSt B M0 g bv dv wv' bl' wt' bad down' left' w1) (hp : Stp B M0 g dv wv wr w1) (hn : Nx wv wv' wr) : Two B M0 g bv dv wv' bl' wt' bad down' left' Q v0 v1 v2 bl2 ws w1 := by
  refine ⟨hs, (t.rf.bound.kept hp.kept (fun k hk => hk.1.2)).mono (fun k hk => ⟨hk.1.1, fun hm => hk.1.2 ?_⟩), fun k hk => t.new k (Nat.le_trans hp.kept.1 hk)⟩
  rcases hm with h | h | h
  · exact .inl h
  · exact .inr (.inl h)
  · rcases hn with e | e
    · exact .inr (.inr (by rw [← e]; exact h))
    · have := e k h.symm
      have := hk.2
      omega
/-- An operation of the document's. -/
theorem Two.rstep (t : Two B M0 g bv dv wv bl wt bad down left Q v0 v1 v2 bl2 ws wr) (h : RPost (Of B M0 g dv wv Q) wr bl' ws' bad down' cut' left' v w1) : ∃ A0 c0 A1 c1 A2 c2, v = .agg #[.slice A0 bl'.length c0, .slice A1 ws'.length c1, .slice A2 bad.length c2, .bool down', .bool cut', .int .i64 left'] ∧ Two B M0 g bv dv wv bl wt bad down left Q (.slice A0 bl'.length c0) (.slice A1 ws'.length c1) (.slice A2 bad.length c2) bl' ws' w1 ∧ Below wr.heap.size wr w1 := by
  obtain ⟨u0, u1, u2, rfl, hs, hb⟩ := h
  obtain ⟨A0, c0, rfl⟩ := Kd.V_slice hs.b
  obtain ⟨A1, c1, rfl⟩ := Kd.V_slice hs.q
  obtain ⟨A2, c2, rfl⟩ := Kd.V_slice hs.d
  refine ⟨A0, c0, A1, c1, A2, c2, rfl, ⟨t.st.below hb, hs.mono (fun k hk => ?_), fun k hk => t.new k (Nat.le_trans hb.size hk)⟩, hb⟩
  rcases hk with hk | hk
  · exact hk
  · exact ⟨t.new k hk, fun hm => by have := t.st.mut_lt hm; omega⟩
/-- A box between N0 and N1 is written: all stays. -/
theorem Two.box (t : Two B M0 g bv dv wv bl wt bad down left Q v0 v1 v2 bl2 ws wr) {k : Nat} (hq : ¬ Q k) (hM : M0 ≤ k) {cs : Array Value} (hbx : wr.heap[k]? = some (.cells cs 102 (0, 0))) (hm : ∀ j, j ≠ k → w1.heap[j]? = wr.heap[j]?) (hs : w1.heap.size = wr.heap.size) : Two B M0 g bv dv wv bl wt bad down left Q v0 v1 v2 bl2 ws w1 := by
  have hgB := t.st.gB
  refine ⟨⟨(hm g (by omega)).trans t.st.blk, Kd.S_step t.st.blocks (fun j hj _ => hm j (by have := hj.2.1; omega)), ?_, Kd.R_step t.st.badr (fun j hj _ => hm j (by have := hj.1; omega)), hgB.1, hgB.2.1, by rw [hs]; exact hgB.2.2⟩, t.rf.step (fun j hj _ => hm j (fun e => hq (e ▸ hj.1))), by rw [hs]; exact t.new⟩
  exact Kd.R_mono (Kd.R_step (Kd.R_types t.st.waits hbx (by decide)) (fun j hj _ => hm j hj.2)) (fun j hj => hj.1)
/-- The two steps agree. -/
theorem step_eq (hl : 0 ≤ left) : (dl cut left = 0 ↔ (rstep down cut left).2.2 = false) ∧ ((rstep down cut left).2.2 = false → (rstep down cut left).1 = true ∧ dl cut (rstep down cut left).2.1 = dl cut left) ∧ ((rstep down cut left).2.2 = true → (rstep down cut left).1 = down ∧ dl cut (rstep down cut left).2.1 = dec (dl cut left)) := by
  unfold dl rstep dec
  cases cut with
  | false => simp
  | true =>
    by_cases h : left = 0
    · subst h
      simp
    · simp [h]
      intro h2
      omega
theorem wr_eq (nb : Nat) (ws : List S183) (bad : List Int) (down cut : Bool) (left n : Int) (b : List Int) (hl : 0 ≤ left) : wrS nb (ws.map toW) bad down (dl cut left) n b = ((rPut nb ws bad down cut left n b).1, (rPut nb ws bad down cut left n b).2.1.map toW, (rPut nb ws bad down cut left n b).2.2.1, dl cut (rPut nb ws bad down cut left n b).2.2.2) := by
  obtain ⟨h1, h2, h3⟩ := step_eq (down := down) (cut := cut) hl
  unfold wrS rPut
  by_cases hd : down = true
  · rw [if_pos hd, if_pos hd]
  rw [if_neg hd, if_neg hd]
  by_cases hn : ¬ (0 ≤ n ∧ n < (nb : Int)) ∨ b.length ≠ 256
  · rw [if_pos hn, if_pos hn]
  rw [if_neg hn, if_neg hn]
  by_cases hb : n ∈ bad
  · rw [if_pos hb, if_pos hb]
  rw [if_neg hb, if_neg hb]
  by_cases h0 : dl cut left = 0
  · have e := h1.1 h0
    obtain ⟨e1, e2⟩ := h2 e
    rw [if_pos h0, if_neg (by rw [e]; decide)]
    simp only [e1, e2]
  · have e : (rstep down cut left).2.2 = true := by
      cases hq : (rstep down cut left).2.2 with
      | true => rfl
      | false => exact absurd (h1.2 hq) h0
    obtain ⟨e1, e2⟩ := h3 e
    rw [if_neg h0, if_pos e]
    simp only [e1, e2, List.map_append, List.map_cons, List.map_nil]
    rfl
theorem sy_eq (bl : List (List Int)) (ws : List S183) (down cut : Bool) (left : Int) (hl : 0 ≤ left) : syS bl (ws.map toW) down (dl cut left) = ((rSync bl ws down cut left).1, (rSync bl ws down cut left).2.1, (rSync bl ws down cut left).2.2.1.map toW, (rSync bl ws down cut left).2.2.2.1, dl cut (rSync bl ws down cut left).2.2.2.2) := by
  obtain ⟨h1, h2, h3⟩ := step_eq (down := down) (cut := cut) hl
  unfold syS rSync
  by_cases hd : down = true
  · rw [if_pos hd, if_pos hd]
  rw [if_neg hd, if_neg hd]
  by_cases h0 : dl cut left = 0
  · have e := h1.1 h0
    obtain ⟨e1, e2⟩ := h2 e
    rw [if_pos h0, if_neg (by rw [e]; decide)]
    simp only [e1, e2]
  · have e : (rstep down cut left).2.2 = true := by
      cases hq : (rstep down cut left).2.2 with
      | true => rfl
      | false => exact absurd (h1.2 hq) h0
    obtain ⟨e1, e2⟩ := h3 e
    rw [if_neg h0, if_pos e]
    simp only [e1, e2, List.map_nil]
theorem rstep_left {down cut : Bool} {left : Int} (hl : 0 ≤ left ∧ left ≤ 9223372036854775807) : 0 ≤ (rstep down cut left).2.1 ∧ (rstep down cut left).2.1 ≤ 9223372036854775807 := by
  unfold rstep
  split
  · split
    · exact hl
    · simp only; omega
  · exact hl
theorem last_eq (n : Int) : ∀ (ws : List S183) (b : List Int), lastW n (ws.map toW) b = lastR n ws b
  | [], _ => rfl
  | x :: ws, b => last_eq n ws _
/-- The document's state fits the disk's bounds. -/
structure Fit (nb i : Nat) (bl : List (List Int)) (ws : List S183) (bad : List Int) (left : Int) : Prop where
  wf : WFd bl (ws.map toW)
  len : bl.length = nb
  short : ws.length ≤ i
  left_ : 0 ≤ left ∧ left ≤ 9223372036854775807
  badl : bad.length ≤ 10
theorem Fit.put {nb i : Nat} (h : Fit nb i bl ws bad left) (down cut : Bool) (n : Int) (b : List Int) : Fit nb (i + 1) bl (rPut bl.length ws bad down cut left n b).2.1 bad (rPut bl.length ws bad down cut left n b).2.2.2 := by
  have hs := h.short
  unfold rPut
  split
  · exact ⟨h.wf, h.len, by simp only; omega, h.left_, h.badl⟩
  split
  · exact ⟨h.wf, h.len, by simp only; omega, h.left_, h.badl⟩
  rename_i h5
  split
  · exact ⟨h.wf, h.len, by simp only; omega, h.left_, h.badl⟩
  split
  · refine ⟨⟨h.wf.1, fun x hx => ?_⟩, h.len, by simp only [List.length_append, List.length_singleton]; omega, rstep_left h.left_, h.badl⟩
    simp only [List.map_append, List.map_cons, List.map_nil] at hx
    rcases List.mem_append.1 hx with hx | hx
    · exact h.wf.2 x hx
    · obtain rfl := List.mem_singleton.1 hx
      exact ⟨(Classical.byContradiction (fun q => h5 (.inl q))).1, (Classical.byContradiction (fun q => h5 (.inl q))).2, Classical.byContradiction (fun q => h5 (.inr q))⟩
  · exact ⟨h.wf, h.len, by simp only; omega, rstep_left h.left_, h.badl⟩
theorem Fit.sync {nb i : Nat} (h : Fit nb i bl ws bad left) (down cut : Bool) : Fit nb (i + 1) (rSync bl ws down cut left).2.1 (rSync bl ws down cut left).2.2.1 bad (rSync bl ws down cut left).2.2.2.2 := by
  have hs := h.short
  unfold rSync
  split
  · exact ⟨h.wf, h.len, by simp only; omega, h.left_, h.badl⟩
  split
  · have hw := syncB_wf (ws.map toW) h.wf (fun x hx => hx)
    exact ⟨⟨hw.1.1, fun x hx => absurd hx (by simp)⟩, hw.2.trans h.len, Nat.zero_le _, rstep_left h.left_, h.badl⟩
  · exact ⟨h.wf, h.len, by simp only; omega, rstep_left h.left_, h.badl⟩
theorem Fit.cutn {nb i : Nat} (h : Fit nb i bl ws bad left) (n : Int) (hn : n ≤ 9223372036854775807) : Fit nb (i + 1) bl ws bad (mx n 0) := ⟨h.wf, h.len, Nat.le_succ_of_le h.short, by unfold mx; split <;> omega, h.badl⟩
theorem Fit.crash {nb i : Nat} (h : Fit nb i bl ws bad left) (ps : List Int) : Fit nb (i + 1) (crashB (ws.map toW) ps bl) [] bad 0 := by
  have hw := crashB_wf (ws.map toW) ps h.wf (fun x hx => hx)
  exact ⟨⟨hw.1.1, fun x hx => absurd hx (by simp)⟩, hw.2.trans h.len, Nat.zero_le _, by decide, h.badl⟩
end

end Go.Proofs.Ytdbfclfglpbpmaa.Dsk
