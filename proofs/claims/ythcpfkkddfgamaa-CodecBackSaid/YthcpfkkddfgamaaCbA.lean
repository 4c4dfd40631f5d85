/- Items: a struct with a text and a key in it. No condition. -/
import Derived.Test.YthcpfkkddfgamaaCcP
import Derived.Test.YthcpfkkddfgamaaGenC
namespace Go.Proofs.Ythcpfkkddfgamaa.Cod
open Go.AnyFacts Go.Proofs.Ythcpfkkddfgamaa.Sha Go.RowKit Go.Proofs.YthcpfkkddfgamaaW.Hand Go.Proofs.YthcpfkkddfgamaaW.PrintWords Go.Proofs.YthcpfkkddfgamaaW.PrintLast Go.Proofs.YthcpfkkddfgamaaW.PrintMore Go.Proofs.Ythcpfkkddfgamaa.PF06C Go.Proofs.Ythcpfkkddfgamaa.Base Go.Proofs.Ythcpfkkddfgamaa.LF06C
attribute [local go_sem] max2_int min2_int max_two min_two max_three min_three max_four min_four
set_option linter.unusedVariables false
set_option linter.unusedSimpArgs false

/-- An array of 32 bytes, as an element's part. -/
def KA : Kd (List Int) where
  sz := 32
  E := []
  K := fun _ xs cs => xs.length = 32 ∧ cs = xs.map (Value.int .u8)
  M := fun _ _ _ xs cs => xs.length = 32 ∧ cs = xs.map (Value.int .u8)
  K_len := by
    rintro w x cs ⟨h, rfl⟩
    simpa using h
  K_one := by
    rintro w x cs ⟨h, rfl⟩ u hu
    obtain ⟨y, _, rfl⟩ := List.mem_map.1 hu
    rfl
  K_below := fun _ h => h
  K_of_M := fun h => h
  M_mono := fun _ h => h
  M_bound := fun h => h
  M_move := fun _ h => h
  M_lower := fun _ h => h
/-- An item: its kind, its number, its text, its key. -/
abbrev It := Int × Int × List Int × List Int
def kIt : Kd It := Kd.pair (Kd.int .i64) (Kd.pair (Kd.int .i64) (Kd.pair (Kd.slice 5 (Kd.int .u8)) KA))
def itC (x : It) (A : Option Addr) (c : Nat) : List Value := .int .i64 x.1 :: .int .i64 x.2.1 :: .slice A x.2.2.1.length c :: x.2.2.2.map (Value.int .u8)
/-- What the guards of the row say of an item. -/
def WFIt (x : It) : Prop := (Lit.int .i64 x.1).wf = true ∧ (Lit.int .i64 x.2.1).wf = true ∧ (x.2.2.1.length ≤ maxLen ∧ ∀ y ∈ x.2.2.1, (Lit.int .u8 y).wf = true) ∧ x.2.2.2.length = 32 ∧ ∀ y ∈ x.2.2.2, (Lit.int .u8 y).wf = true
theorem kIt_K {w : World} {x : It} {cs : List Value} (h : kIt.K w x cs) : ∃ A c, cs = itC x A c ∧ x.2.2.1.length ≤ c ∧ Kd.C (Kd.int .u8) w A x.2.2.1.length x.2.2.1 ∧ x.2.2.2.length = 32 := by
  obtain ⟨c0, c1, rfl, h0, c2, c3, rfl, h2, c4, c5, rfl, ⟨A, c, e4, hc, hC⟩, h5, e5⟩ := h
  have e0 : c0 = [.int .i64 x.1] := h0
  have e2 : c2 = [.int .i64 x.2.1] := h2
  subst e0 e2 e4 e5
  exact ⟨A, c, rfl, hc, hC, h5⟩
/-- An item in a row that came in. -/
theorem at_It {w : World} {A : Option Addr} {l : List It} (h : Kd.C kIt w A l.length l) (i : Nat) (hi : i < l.length) : ∃ ad, A = some ad ∧ ∃ B c, l[i].2.2.1.length ≤ c ∧ Kd.C (Kd.int .u8) w B l[i].2.2.1.length l[i].2.2.1 ∧ l[i].2.2.2.length = 32 ∧ ∀ (j : Nat) (v : Value), (itC l[i] B c)[j]? = some v → w.cell? (ad.add (i * 35 + j)) = some v := by
  obtain ⟨ad, e, hc⟩ := h.2.2 (by omega)
  obtain ⟨cs, h1, h2, h3⟩ := hc i l[i] (List.getElem?_eq_getElem hi)
  obtain ⟨B, c, rfl, hc, hC, hl⟩ := kIt_K h2
  exact ⟨ad, e, B, c, hc, hC, hl, h3⟩
section
variable {P : Program} {ops : Array Oper} {rest : List Oper} {o : Oper} {a : Act} {W : World} {Q : Exit → Act → World → Prop}
theorem run_loadVar_list (w : World) (ty : TypeId) (ad : Addr) (cs : List Value) (d : TypeDesc) (hc : ∀ j v, cs[j]? = some v → w.cell? (ad.add j) = some v)
    (hu : P.underlying ty = some d) (hd : (match d with | .struct _ | .array _ _ => true | _ => false) = true) (hi : (P.info? ty).map (·.size) = some cs.length) :
    (loadVar ty ad).run P w = .ok (.agg cs.toArray) w := by
  have hl : (loadCells ad cs.length).run P w = .ok cs.toArray w := run_loadCells_list (P := P) w ad cs hc
  cases hq : P.info? ty with
  | none => simp [hq] at hi
  | some i =>
    have hs : i.size = cs.length := by simpa [hq] using hi
    have hagg : (isAgg ty).run P w = .ok true w := by
      unfold isAgg
      rw [Sem.run_bind, run_underlying hu w]
      cases d <;> simp_all
    simp [loadVar, Sem.run_bind, hagg, sizeOf, typeInfo, hq, hs, hl]
theorem run_load_list (ty : TypeId) (x : Operand) (ho : o.op = .load ty x) (ad : Addr) (hx : a.eval x = .pointer (some ad)) (cs : List Value) (d : TypeDesc) (hc : ∀ j v, cs[j]? = some v → W.cell? (ad.add j) = some v)
    (hu : P.underlying ty = some d) (hd : (match d with | .struct _ | .array _ _ => true | _ => false) = true) (hi : (P.info? ty).map (·.size) = some cs.length) : (execOp a.eval o).run P W = .ok (.value (.agg cs.toArray)) W := by
  unfold execOp
  simp only [ho, hx, Instr.loadAt, Instr.sureAddr, Sem.run_bind, Sem.run_pure, Result.andThen_ok, run_loadVar_list W ty ad cs d hc hu hd hi]
theorem L_loadlist (hgd : o.guard = none) (ty : TypeId) (x : Operand) (ho : o.op = .load ty x) (ad : Addr) (hx : a.eval x = .pointer (some ad)) (cs : List Value) (d : TypeDesc) (hc : ∀ j v, cs[j]? = some v → W.cell? (ad.add j) = some v)
    (hu : P.underlying ty = some d) (hd : (match d with | .struct _ | .array _ _ => true | _ => false) = true) (hi : (P.info? ty).map (·.size) = some cs.length)
    (h : wpList P ops Q rest (a.put o.dst (.agg cs.toArray)) W) : wpList P ops Q (o :: rest) a W :=
  Kd.event_run hgd (run_load_list ty x ho ad hx cs d hc hu hd hi) h
end
/-- An item in a box: its cells. -/
theorem box_cells {w : World} {g : Nat} {x : It} {A : Option Addr} {c : Nat} {t : TypeId} (h : w.heap[g]? = some (.cells (itC x A c).toArray t (0, 0))) : w.cell? ⟨g, 0, none⟩ = some (.int .i64 x.1) ∧ w.cell? ⟨g, 1, none⟩ = some (.int .i64 x.2.1) ∧ w.cell? ⟨g, 2, none⟩ = some (.slice A x.2.2.1.length c) ∧ ∀ (j : Nat) (v : Value), (x.2.2.2.map (Value.int .u8))[j]? = some v → w.cell? ((⟨g, 3, none⟩ : Addr).add j) = some v := by
  refine ⟨by rw [cell_of_row w g 0 _ t (0, 0) h]; rfl, by rw [cell_of_row w g 1 _ t (0, 0) h]; rfl, by rw [cell_of_row w g 2 _ t (0, 0) h]; rfl, fun j v hv => ?_⟩
  rw [Addr.add_lit, cell_of_row w g (3 + j) _ t (0, 0) h]
  rw [show 3 + j = j + 3 by omega]
  simpa [itC] using hv
theorem it_size (x : It) (A : Option Addr) (c : Nat) (h : x.2.2.2.length = 32) : (itC x A c).length = 35 := by simp [itC, h]

end Go.Proofs.Ythcpfkkddfgamaa.Cod
