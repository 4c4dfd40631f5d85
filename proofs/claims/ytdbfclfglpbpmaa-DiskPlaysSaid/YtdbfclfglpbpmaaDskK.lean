/- A block of a disk that is kept. No condition. -/
import Derived.Test.YtdbfclfglpbpmaaDskI
namespace Go.Proofs.Ytdbfclfglpbpmaa.Dsk
open Go.AnyFacts Go.Proofs.Ytdbfclfglpbpmaa.Sha Go.RowKit Go.Proofs.YtdbfclfglpbpmaaW.Hand Go.Proofs.YtdbfclfglpbpmaaW.PrintWords Go.Proofs.YtdbfclfglpbpmaaW.PrintLast Go.Proofs.YtdbfclfglpbpmaaW.PrintMore Go.Proofs.Ytdbfclfglpbpmaa.PF21 Go.Proofs.Ytdbfclfglpbpmaa.Base Go.Proofs.Ytdbfclfglpbpmaa.LF21
attribute [local go_sem] max2_int min2_int max_two min_two max_three min_three max_four min_four
set_option linter.unusedVariables false
set_option linter.unusedSimpArgs false

/-- An op: kind, number, fill, last, short, picks. -/
abbrev DOp := Int × Int × Int × Int × Bool × List Int
def kOp : Kd DOp := Kd.pair (Kd.int .i64) (Kd.pair (Kd.int .i64) (Kd.pair (Kd.int .u8) (Kd.pair (Kd.int .u8) (Kd.pair Kd.bool (Kd.slice 3 (Kd.int .i64))))))
def opC (x : DOp) (A : Option Addr) (c : Nat) : List Value := [.int .i64 x.1, .int .i64 x.2.1, .int .u8 x.2.2.1, .int .u8 x.2.2.2.1, .bool x.2.2.2.2.1, .slice A x.2.2.2.2.2.length c]
/-- What the guards of the row say of an op. -/
def WFOp (x : DOp) : Prop := (Lit.int .i64 x.1).wf = true ∧ (Lit.int .i64 x.2.1).wf = true ∧ (Lit.int .u8 x.2.2.1).wf = true ∧ (Lit.int .u8 x.2.2.2.1).wf = true ∧ (x.2.2.2.2.2.length ≤ maxLen ∧ ∀ y ∈ x.2.2.2.2.2, (Lit.int .i64 y).wf = true)
theorem kOp_K {w : World} {x : DOp} {cs : List Value} (h : kOp.K w x cs) : ∃ A c, cs = opC x A c ∧ x.2.2.2.2.2.length ≤ c ∧ Kd.C (Kd.int .i64) w A x.2.2.2.2.2.length x.2.2.2.2.2 := by
  obtain ⟨c0, c1, rfl, h0, c2, c3, rfl, h2, c4, c5, rfl, h4, c6, c7, rfl, h6, c8, c9, rfl, h8, ⟨A, c, e, hc, hC⟩⟩ := h
  have e0 : c0 = [.int .i64 x.1] := h0
  have e2 : c2 = [.int .i64 x.2.1] := h2
  have e4 : c4 = [.int .u8 x.2.2.1] := h4
  have e6 : c6 = [.int .u8 x.2.2.2.1] := h6
  have e8 : c8 = [.bool x.2.2.2.2.1] := h8
  subst e0 e2 e4 e6 e8 e
  exact ⟨A, c, rfl, hc, hC⟩
theorem at_Op {w : World} {A : Option Addr} {l : List DOp} (h : Kd.C kOp w A l.length l) (i : Nat) (hi : i < l.length) : ∃ ad, A = some ad ∧ ∃ B c, l[i].2.2.2.2.2.length ≤ c ∧ Kd.C (Kd.int .i64) w B l[i].2.2.2.2.2.length l[i].2.2.2.2.2 ∧ ∀ (j : Nat) (v : Value), (opC l[i] B c)[j]? = some v → w.cell? (ad.add (i * 6 + j)) = some v := by
  obtain ⟨ad, e, hc⟩ := h.2.2 (by omega)
  obtain ⟨cs, h1, h2, h3⟩ := hc i l[i] (List.getElem?_eq_getElem hi)
  obtain ⟨B, c, rfl, hc, hC⟩ := kOp_K h2
  exact ⟨ad, e, B, c, hc, hC, h3⟩
theorem add_add (ad : Addr) (a b : Nat) : (ad.add a).add b = ad.add (a + b) := by
  unfold Addr.add
  by_cases h1 : a = 0 <;> by_cases h2 : b = 0 <;> simp [h1, h2, Nat.add_assoc]
/-- An op's cells, behind an address. -/
theorem op_cells {w : World} {p : Addr} {x : DOp} {A : Option Addr} {c : Nat} (h : ∀ (j : Nat) (v : Value), (opC x A c)[j]? = some v → w.cell? (p.add j) = some v) : w.cell? p = some (.int .i64 x.1) ∧ w.cell? ⟨p.block, p.off + 1, none⟩ = some (.int .i64 x.2.1) ∧ w.cell? ⟨p.block, p.off + 5, none⟩ = some (.slice A x.2.2.2.2.2.length c) :=
  ⟨h 0 _ rfl, h 1 _ rfl, h 5 _ rfl⟩
theorem F_in {k : IntKind} {w : World} {A : Option Addr} {n : Nat} {xs : List Int} (h : Kd.C (Kd.int k) w A n xs) : Kd.F (Kd.int k) w (fun k => k < w.heap.size) A n xs := by
  refine fun W' hW => ⟨h.1, h.2.1, fun hp => ?_⟩
  obtain ⟨ad, e, hc⟩ := h.2.2 hp
  refine ⟨ad, e, fun j p hj => ?_⟩
  obtain ⟨cs, h1, h2, h3⟩ := hc j p hj
  refine ⟨cs, h1, h2, fun i u hu => ?_⟩
  have h4 := h3 i u hu
  have hlt := World.block_lt_of_cell? w _ h4
  have e2 := hW _ hlt hlt
  rw [← h4]
  simp only [World.cell?, e2]
theorem cells_below {w w1 : World} {p : Addr} {cs : List Value} (h : ∀ (j : Nat) (v : Value), cs[j]? = some v → w.cell? (p.add j) = some v) (hb : Below w.heap.size w w1) : ∀ (j : Nat) (v : Value), cs[j]? = some v → w1.cell? (p.add j) = some v := fun j v hv => cell_below hb (h j v hv)
theorem cells_of_blk {w : World} {g : Nat} {cs : List Value} {t : TypeId} (h : w.heap[g]? = some (.cells cs.toArray t (0, 0))) : ∀ (j : Nat) (v : Value), cs[j]? = some v → w.cell? ((⟨g, 0, none⟩ : Addr).add j) = some v := by
  intro j v hv
  rw [add_plain, cell_of_row w g j _ t (0, 0) h]
  simpa using hv
theorem layOne_other {bl : List (List Int)} {x : S154} {k n : Nat} (h : x.f0 ≠ (n : Int)) (h0 : 0 ≤ x.f0) : (layOne bl x k)[n]? = bl[n]? := by
  unfold layOne
  rw [List.getElem?_set_ne (by omega)]
theorem syncB_other {n : Nat} : ∀ (wt : List S154) (bl : List (List Int)), (∀ x ∈ wt, x.f0 ≠ (n : Int) ∧ 0 ≤ x.f0) → (syncB wt bl)[n]? = bl[n]?
  | [], _, _ => rfl
  | x :: wt, bl, h => (syncB_other wt _ (fun y hy => h y (List.mem_cons_of_mem _ hy))).trans (layOne_other (h x List.mem_cons_self).1 (h x List.mem_cons_self).2)
theorem crashB_other {n : Nat} : ∀ (wt : List S154) (ps : List Int) (bl : List (List Int)), (∀ x ∈ wt, x.f0 ≠ (n : Int) ∧ 0 ≤ x.f0) → (crashB wt ps bl)[n]? = bl[n]?
  | [], _, _, _ => rfl
  | _ :: _, [], _, _ => rfl
  | x :: wt, p :: ps, bl, h => (crashB_other wt ps _ (fun y hy => h y (List.mem_cons_of_mem _ hy))).trans (layOne_other (h x List.mem_cons_self).1 (h x List.mem_cons_self).2)
/-- The disk, and the block that is kept. -/
structure Kep (B : Nat) (W : World) (M0 g : Nat) (bv dv : Value) (n : Nat) (b0 : List Int) (i : Nat) (wv : Value) (bl : List (List Int)) (wt : List S154) (down : Bool) (left : Int) (wr : World) : Prop where
  st : DSt B M0 g bv dv wv bl wt [] down left wr
  below : Below B W wr
  len : bl.length = 4
  wf : WFd bl wt
  at_ : bl[n]? = some b0
  not_ : ∀ x ∈ wt, x.f0 ≠ (n : Int)
  short : wt.length ≤ i
  left_ : left ≤ 9223372036854775807
def KepX (B : Nat) (W : World) (M0 g : Nat) (bv dv : Value) (n : Nat) (b0 : List Int) (i : Nat) (wr : World) : Prop := ∃ wv bl wt down left, Kep B W M0 g bv dv n b0 i wv bl wt down left wr
section
variable {B M0 g n i : Nat} {bv dv wv : Value} {b0 : List Int} {bl : List (List Int)} {wt : List S154} {down : Bool} {left : Int} {W wr w1 : World}
theorem Kep.later (h : Kep B W M0 g bv dv n b0 i wv bl wt down left wr) (hb : Below wr.heap.size wr w1) : Kep B W M0 g bv dv n b0 i wv bl wt down left w1 :=
  ⟨h.st.below hb, below_then h.below (by have := h.st.gB; omega) hb, h.len, h.wf, h.at_, h.not_, h.short, h.left_⟩
theorem dec_le {left : Int} (h : left ≤ 9223372036854775807) : dec left ≤ 9223372036854775807 := by
  unfold dec
  split <;> omega
theorem Kep.write (h : Kep B W M0 g bv dv n b0 i wv bl wt down left wr) (m : Int) (hm : m ≠ (n : Int)) (hi : i ≤ 100) (A2 : Option Addr) (c2 : Nat) (b : List Int) (hC : Kd.F (Kd.int .u8) wr (fun k => ¬ Mut B M0 g dv wv k) A2 b.length b) (hc : b.length ≤ c2) :
    Calls Try.prog 45 #[.pointer (some ⟨g, 0, none⟩), .int .i64 m, .slice A2 b.length c2] wr fun e w' => (∃ code, e = .returned (.int .i64 code)) ∧ KepX B W M0 g bv dv n b0 (i + 1) w' := by
  refine (h.st.Write m A2 c2 b hC hc (by decide) h.left_ (by have := h.short; omega)).mono ?_
  rintro e w' ⟨rfl, wv', h1, h2, h3⟩
  have hbw := h.below.trans h2.below
  refine ⟨⟨_, rfl⟩, wv', bl, _, _, _, ⟨h1, hbw, h.len, ?_, h.at_, ?_, ?_, ?_⟩⟩ <;> unfold wrS
  · split
    · exact h.wf
    split
    · exact h.wf
    split
    · exact h.wf
    split
    · exact h.wf
    · rename_i h5 _ _
      refine ⟨h.wf.1, fun x hx => ?_⟩
      rcases List.mem_append.1 hx with hx | hx
      · exact h.wf.2 x hx
      · obtain rfl := List.mem_singleton.1 hx
        exact ⟨(Classical.byContradiction (fun q => h5 (.inl q))).1, (Classical.byContradiction (fun q => h5 (.inl q))).2, Classical.byContradiction (fun q => h5 (.inr q))⟩
  · intro x
    split
    · exact h.not_ x
    split
    · exact h.not_ x
    split
    · exact h.not_ x
    split
    · exact h.not_ x
    · intro hx
      rcases List.mem_append.1 hx with hx | hx
      · exact h.not_ x hx
      · obtain rfl := List.mem_singleton.1 hx
        exact hm
  · have := h.short
    split
    · exact Nat.le_succ_of_le this
    split
    · exact Nat.le_succ_of_le this
    split
    · exact Nat.le_succ_of_le this
    split
    · exact Nat.le_succ_of_le this
    · rw [List.length_append, List.length_singleton]
      omega
  · have := h.left_
    split
    · exact this
    split
    · exact this
    split
    · exact this
    split
    · exact this
    · exact dec_le this
theorem Kep.sync (h : Kep B W M0 g bv dv n b0 i wv bl wt down left wr) (hi : i ≤ 100) : Calls Try.prog 47 #[.pointer (some ⟨g, 0, none⟩)] wr fun e w' => (∃ code, e = .returned (.int .i64 code)) ∧ KepX B W M0 g bv dv n b0 (i + 1) w' := by
  refine (h.st.Sync h.left_ h.wf (by have := h.short; omega)).mono ?_
  rintro e w' ⟨rfl, wv', h1, h2, h3⟩
  have hbw := h.below.trans h2.below
  have hs := h.short
  refine ⟨⟨_, rfl⟩, wv', ?_⟩
  unfold syS at h1
  by_cases hd : down = true
  · rw [if_pos hd] at h1
    exact ⟨_, _, _, _, h1, hbw, h.len, h.wf, h.at_, h.not_, by simp only; omega, h.left_⟩
  rw [if_neg hd] at h1
  by_cases h0 : left = 0
  · rw [if_pos h0] at h1
    exact ⟨_, _, _, _, h1, hbw, h.len, h.wf, h.at_, h.not_, by simp only; omega, h.left_⟩
  rw [if_neg h0] at h1
  have hw := syncB_wf wt h.wf (fun x hx => hx)
  exact ⟨_, _, _, _, h1, hbw, hw.2.trans h.len, ⟨hw.1.1, fun x hx => absurd hx (by simp)⟩, (syncB_other wt bl (fun x hx => ⟨h.not_ x hx, (h.wf.2 x hx).1⟩)).trans h.at_, fun x hx => absurd hx (by simp), Nat.zero_le _, dec_le h.left_⟩
theorem Kep.cut (h : Kep B W M0 g bv dv n b0 i wv bl wt down left wr) (m : Int) (hm : m ≤ 9223372036854775807) : Calls Try.prog 48 #[.pointer (some ⟨g, 0, none⟩), .int .i64 m] wr fun e w' => e = .returned (.tuple #[]) ∧ KepX B W M0 g bv dv n b0 (i + 1) w' := by
  refine (h.st.Cut m).mono ?_
  rintro e w' ⟨rfl, h1, h2⟩
  have hs := h.short
  exact ⟨rfl, wv, _, _, _, _, h1, h.below.trans h2.below, h.len, h.wf, h.at_, h.not_, by omega, by unfold mx; split <;> omega⟩
theorem Kep.crash (h : Kep B W M0 g bv dv n b0 i wv bl wt down left wr) (hi : i ≤ 100) (Ap : Option Addr) (cp : Nat) (ps : List Int) (hP : Kd.F (Kd.int .i64) wr (fun k => k < B) Ap ps.length ps) (hpc : ps.length ≤ cp) : Calls Try.prog 49 #[.pointer (some ⟨g, 0, none⟩), .slice Ap ps.length cp] wr fun e w' => e = .returned (.tuple #[]) ∧ KepX B W M0 g bv dv n b0 (i + 1) w' := by
  refine (h.st.Crash Ap cp ps (h.st.oldF hP) hpc h.wf (by have := h.short; omega)).mono ?_
  rintro e w' ⟨rfl, h1, h2⟩
  have hw := crashB_wf wt ps h.wf (fun x hx => hx)
  exact ⟨rfl, _, _, _, _, _, h1, h.below.trans h2.below, hw.2.trans h.len, ⟨hw.1.1, fun x hx => absurd hx (by simp)⟩, (crashB_other wt ps bl (fun x hx => ⟨h.not_ x hx, (h.wf.2 x hx).1⟩)).trans h.at_, fun x hx => absurd hx (by simp), Nat.zero_le _, by decide⟩
/-- What lies in the block that is kept. -/
theorem Kep.lies (h : Kep B W M0 g bv dv n b0 i wv bl wt down left wr) (zn : Int) (hz : zn = (n : Int)) : Calls Try.prog 50 #[.pointer (some ⟨g, 0, none⟩), .int .i64 zn] wr fun e w' => ∃ v0 : Value, e = .returned v0 ∧ Kd.R (Kd.int .u8) 5 w' wr.heap.size (fun _ => True) v0 b0 ∧ Below wr.heap.size wr w' := by
  subst hz
  obtain ⟨hn, e⟩ := List.getElem?_eq_some_iff.1 h.at_
  have := h.st.Lies (n : Int) n rfl hn (by rw [h.wf.1 _ (List.getElem_mem hn)]; decide)
  rw [e] at this
  exact this
theorem Kep.next (h : Kep B W M0 g bv dv n b0 i wv bl wt down left wr) : KepX B W M0 g bv dv n b0 (i + 1) wr := ⟨wv, bl, wt, down, left, h.st, h.below, h.len, h.wf, h.at_, h.not_, Nat.le_succ_of_le h.short, h.left_⟩
end

end Go.Proofs.Ytdbfclfglpbpmaa.Dsk
