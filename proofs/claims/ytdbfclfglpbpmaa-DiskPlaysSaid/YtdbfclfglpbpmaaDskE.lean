/- A disk: what is laid. No condition. -/
import Derived.Test.YtdbfclfglpbpmaaDskD
namespace Go.Proofs.Ytdbfclfglpbpmaa.Dsk
open Go.AnyFacts Go.Proofs.Ytdbfclfglpbpmaa.Sha Go.RowKit Go.Proofs.YtdbfclfglpbpmaaW.Hand Go.Proofs.YtdbfclfglpbpmaaW.PrintWords Go.Proofs.YtdbfclfglpbpmaaW.PrintLast Go.Proofs.YtdbfclfglpbpmaaW.PrintMore Go.Proofs.Ytdbfclfglpbpmaa.PF21 Go.Proofs.Ytdbfclfglpbpmaa.Base Go.Proofs.Ytdbfclfglpbpmaa.LF21
attribute [local go_sem] max2_int min2_int max_two min_two max_three min_three max_four min_four
set_option linter.unusedVariables false
set_option linter.unusedSimpArgs false
section
variable {P : Program} {ops : Array Oper} {rest : List Oper} {o : Oper} {a : Act} {W : World} {Q : Exit → Act → World → Prop}
theorem run_loadVar_list (w : World) (ty : TypeId) (ad : Addr) (cs : List Value) (d : TypeDesc) (hc : ∀ j v, cs[j]? = some v → w.cell? (ad.add j) = some v)
    (hu : P.underlying ty = some d) (hd : (match d with | .struct _ | .array _ _ => true | _ => false) = true) (hi : (P.info? ty).map (·.size) = some cs.length) :
    (loadVar ty ad).run P w = .ok (.agg cs.toArray) w := by
  have hl : (loadCells ad cs.length).run P w = .ok cs.toArray w := run_loadCells_list (P := P) w ad cs hc
  cases hq : P.info? ty with
  | none => simp [hq] at hi
  | some i =>
    have hs : i.size = cs.length := by simpa [hq] using hi
    have hagg : (isAgg ty).run P w = .ok true w := by
      unfold isAgg
      rw [Sem.run_bind, run_underlying hu w]
      cases d <;> simp_all
    simp [loadVar, Sem.run_bind, hagg, sizeOf, typeInfo, hq, hs, hl]
theorem run_load_list (ty : TypeId) (x : Operand) (ho : o.op = .load ty x) (ad : Addr) (hx : a.eval x = .pointer (some ad)) (cs : List Value) (d : TypeDesc) (hc : ∀ j v, cs[j]? = some v → W.cell? (ad.add j) = some v)
    (hu : P.underlying ty = some d) (hd : (match d with | .struct _ | .array _ _ => true | _ => false) = true) (hi : (P.info? ty).map (·.size) = some cs.length) : (execOp a.eval o).run P W = .ok (.value (.agg cs.toArray)) W := by
  unfold execOp
  simp only [ho, hx, Instr.loadAt, Instr.sureAddr, Sem.run_bind, Sem.run_pure, Result.andThen_ok, run_loadVar_list W ty ad cs d hc hu hd hi]
theorem L_loadlist (hgd : o.guard = none) (ty : TypeId) (x : Operand) (ho : o.op = .load ty x) (ad : Addr) (hx : a.eval x = .pointer (some ad)) (cs : List Value) (d : TypeDesc) (hc : ∀ j v, cs[j]? = some v → W.cell? (ad.add j) = some v)
    (hu : P.underlying ty = some d) (hd : (match d with | .struct _ | .array _ _ => true | _ => false) = true) (hi : (P.info? ty).map (·.size) = some cs.length)
    (h : wpList P ops Q rest (a.put o.dst (.agg cs.toArray)) W) : wpList P ops Q (o :: rest) a W :=
  Kd.event_run hgd (run_load_list ty x ho ad hx cs d hc hu hd hi) h
end

def layOne (bl : List (List Int)) (x : S154) (k : Nat) : List (List Int) := bl.set x.f0.toNat (x.f1.take k ++ (bl.getD x.f0.toNat []).drop k)
def syncB : List S154 → List (List Int) → List (List Int)
  | [], bl => bl
  | x :: wt, bl => syncB wt (layOne bl x 256)
def pick (p : Int) : Int := mn (mx p 0) 256
def crashB : List S154 → List Int → List (List Int) → List (List Int)
  | x :: wt, p :: ps, bl => crashB wt ps (layOne bl x (pick p).toNat)
  | _, _, bl => bl
def WFd (bl : List (List Int)) (wt : List S154) : Prop := (∀ b ∈ bl, b.length = 256) ∧ ∀ x ∈ wt, 0 ≤ x.f0 ∧ x.f0 < (bl.length : Int) ∧ x.f1.length = 256
theorem layOne_len (bl : List (List Int)) (x : S154) (k : Nat) : (layOne bl x k).length = bl.length := by simp [layOne]
theorem pick_range (p : Int) : 0 ≤ pick p ∧ pick p ≤ 256 := by
  unfold pick mn mx
  split <;> split <;> omega
theorem layOne_wf {bl : List (List Int)} {wt : List S154} (h : WFd bl wt) {x : S154} (hx : x ∈ wt) {k : Nat} (hk : k ≤ 256) : WFd (layOne bl x k) wt := by
  obtain ⟨h1, h2⟩ := h
  obtain ⟨a, b, c⟩ := h2 x hx
  refine ⟨fun y hy => ?_, fun y hy => by rw [layOne_len]; exact h2 y hy⟩
  rcases List.mem_or_eq_of_mem_set hy with hy | rfl
  · exact h1 y hy
  · have hi : x.f0.toNat < bl.length := by omega
    rw [rdl _ hi, List.length_append, List.length_take, List.length_drop, c, h1 _ (List.getElem_mem hi)]
    omega
theorem syncB_wf : ∀ (wt : List S154) {bl : List (List Int)} {W : List S154}, WFd bl W → (∀ x ∈ wt, x ∈ W) → WFd (syncB wt bl) W ∧ (syncB wt bl).length = bl.length
  | [], _, _, h, _ => ⟨h, rfl⟩
  | x :: wt, bl, W, h, hs => by
    have := syncB_wf wt (layOne_wf h (hs x List.mem_cons_self) (Nat.le_refl 256)) (fun y hy => hs y (List.mem_cons_of_mem _ hy))
    exact ⟨this.1, this.2.trans (layOne_len _ _ _)⟩
theorem crashB_wf : ∀ (wt : List S154) (ps : List Int) {bl : List (List Int)} {W : List S154}, WFd bl W → (∀ x ∈ wt, x ∈ W) → WFd (crashB wt ps bl) W ∧ (crashB wt ps bl).length = bl.length
  | [], _, _, _, h, _ => ⟨h, rfl⟩
  | x :: wt, [], _, _, h, _ => ⟨h, rfl⟩
  | x :: wt, p :: ps, bl, W, h, hs => by
    have := crashB_wf wt ps (layOne_wf h (hs x List.mem_cons_self) (show (pick p).toNat ≤ 256 by have := pick_range p; omega)) (fun y hy => hs y (List.mem_cons_of_mem _ hy))
    exact ⟨this.1, this.2.trans (layOne_len _ _ _)⟩
theorem info5p : ∃ i0, Try.prog.info? 5 = some i0 ∧ i0.size = 1 := by
  obtain ⟨i, h1, _, h2, _⟩ := info_parts info5
  exact ⟨i, h1, h2⟩
section
variable {B M0 g : Nat} {bv dv wv : Value} {bl : List (List Int)} {wt : List S154} {bad : List Int} {down : Bool} {left : Int} {w : World}
/-- The first bytes of a block are written. -/
theorem DSt.copy (s : DSt B M0 g bv dv wv bl wt bad down left w) (i : Nat) (hi : i < bl.length) (h256 : bl[i].length = 256) {As : Option Addr} {m sc : Nat} {xs : List Int} (hC : Kd.C (Kd.int .u8) w As m xs) (hm : m ≤ 256) (has : ∃ a, As = some a) :
    ∃ ad cap Ai ci w2, bv = .slice (some ad) bl.length cap ∧ w.cell? (ad.add i) = some (.slice Ai 256 ci) ∧ (∀ ty, (Builtin.copy_ #[22, 22] ty #[.slice Ai 256 ci, .slice As m sc]).run Try.prog w = .ok (goInt m) w2) ∧ DSt B M0 g bv dv wv (bl.set i (xs ++ bl[i].drop m)) wt bad down left w2 ∧ Stp B M0 g dv wv w w2 := by
  obtain ⟨Ab, cb, rfl, _, _⟩ := Kd.S_reads s.blocks
  have hadS : ∃ ad, Ab = some ad := by
    obtain ⟨g1, cap1, e, _⟩ := Kd.S_form s.blocks (by omega)
    injection e with e
    exact ⟨_, e⟩
  obtain ⟨ad, rfl⟩ := hadS
  obtain ⟨oki, c, hcl, hM, hcc, hoki, hback⟩ := Kd.S_borrow s.blocks ([] : List Int) (i : Int) (by omega) (by omega)
  rw [show ((i : Int)).toNat = i by omega, rdl _ hi] at hM
  rw [show ((i : Int)).toNat = i by omega] at hcc hback
  obtain ⟨v, rfl, hR⟩ := hM
  obtain ⟨gi, ci, rfl, hgB, hgl, _⟩ := Kd.R_form hR (by omega)
  have hcell := hcc 0 _ rfl
  rw [show (Kd.slice 5 (Kd.int .u8)).sz = 1 from rfl, Nat.mul_one, Nat.add_zero, h256] at hcell
  obtain ⟨i0, hi0, hs0⟩ := info5p
  rw [h256] at hR
  by_cases h0 : 0 < m
  · obtain ⟨w2, e1, e2, e3, e4⟩ := copy_own (P := Try.prog) (k := Kd.int .u8) flatB KMB (Kd.R_tight rfl hR) hC (by decide) 22 22 Try.underlying22 hi0 hs0 0 256 ci m sc (Nat.min_eq_left hm) h0 (by omega) (some ⟨gi, 0, none⟩) (by
      have hc0 : ¬ ci = 0 := by
        obtain ⟨_, h, _⟩ := Kd.R_reads' hR
        omega
      rw [if_neg hc0]; simp [Addr.add])
    have hg : w.grownBy w2 (some gi) := ⟨e3.1, e3.2.1, e3.2.2.1, Nat.le_of_eq e3.2.2.2.symm, fun k hk hn => e4 k (.inl (fun e => hn (by rw [e]; rfl)))⟩
    have hgo : oki gi := hR.1 gi rfl
    rw [List.take_zero, List.nil_append, Nat.zero_add] at e2
    have hS := hback (row := some gi) hg (fun k e => by obtain rfl := Option.some.inj e; exact hgo) ⟨_, rfl, by rw [h256]; exact Kd.R_mono e2 (fun k hk => hR.1 k hk.symm)⟩
    have hOB : B ≤ gi ∧ gi < M0 ∧ gi ≠ g ∧ some gi ≠ dv.ownBlock := (hoki gi hgo).1
    have hgB := s.gB
    refine ⟨ad, cb, some ⟨gi, 0, none⟩, ci, w2, rfl, hcell, e1, ⟨blk_grown s.blk hg (fun e => absurd (Option.some.inj e).symm hOB.2.2.1), by first | exact hS | (rw [List.length_set] at hS; exact hS), Kd.R_grown s.waits hg (fun k hk e => by obtain rfl := Option.some.inj e; have := hOB.2.1; have hk' : M0 ≤ k := hk; omega), ?_, hgB.1, hgB.2.1, by rw [e3.2.2.2]; exact hgB.2.2⟩, ⟨?_, Nat.le_of_eq e3.2.2.2.symm, fun k hk hn => hg.block k hk (fun e => hn (.inr (.inl (by obtain rfl := Option.some.inj e; exact hOB))))⟩⟩
    · exact Kd.R_mono (Kd.R_grown (Kd.R_tight rfl s.badr) hg (fun k hk e => by obtain rfl := Option.some.inj e; exact hOB.2.2.2 hk)) (fun k hk => s.badr.1 k hk.symm)
    · exact pw_below_grown (Below.refl _ _) (some gi) (by omega) hg (fun k e => by obtain rfl := Option.some.inj e; exact hOB.1)
  · obtain rfl : m = 0 := by omega
    obtain ⟨a, rfl⟩ := has
    have hx : xs = [] := List.eq_nil_of_length_eq_zero hC.1
    subst hx
    refine ⟨ad, cb, some ⟨gi, 0, none⟩, ci, w, rfl, hcell, fun ty => ?_, ?_, Stp.refl B M0 g dv wv w⟩
    · exact run_copy_sz (P := Try.prog) w 22 22 ty 5 gi 0 256 ci a 0 sc 1 0 [] Try.underlying22 (by rw [hi0]; simp [hs0]) (Nat.zero_min 256) rfl (fun j v h => by simp at h) (fun j h => absurd h (by simp)) (fun j h => absurd h (by simp)) (fun v h => by simp at h)
    · rw [List.nil_append, List.drop_zero, List.set_getElem_self]
      exact s
end

end Go.Proofs.Ytdbfclfglpbpmaa.Dsk
