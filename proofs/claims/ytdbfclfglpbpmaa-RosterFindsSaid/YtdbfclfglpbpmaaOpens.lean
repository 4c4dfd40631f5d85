/- What is readable as data is a Lean value of its kind: whole numbers, bools, strings, slices, structs, arrays, in one another. No condition. -/
import Derived.Test.YtdbfclfglpbpmaaWMore
import Derived.Test.YtdbfclfglpbpmaaWWords
import Derived.ProofKit
import Derived.ChangeArms
import Derived.Lib.SmallJoins
import Derived.OpenShut
namespace Go.Proofs.YtdbfclfglpbpmaaW.Opens
open Go.RowKit Go.Proofs.YtdbfclfglpbpmaaW.PrintWords Go.WideShapes
set_option linter.unusedVariables false

def Opens (P : Program) (W : World) {α : Type} (d : Kd α) (wf : α → Prop) (t : TypeId) : Prop :=
  ∀ {H : Type} (enc : TypeId × Value → H) (fuel : Nat) (cs : List Value) (y : DataW H × List MemPlace), DataW.trod enc P W 0 (fun _ => true) true fuel t cs = some y → ∃ x : α, d.K W x cs ∧ wf x
section
variable {P : Program} {W : World}
theorem mapM_each {α β : Type} (f : α → Option β) : ∀ (l : List α) (ys : List β), l.mapM f = some ys → ∀ (i : Nat) (a : α), l[i]? = some a → ∃ b, f a = some b := by
  intro l
  induction l with
  | nil => intro ys _ i a h; simp at h
  | cons x l ih =>
    intro ys h i a hi
    rw [List.mapM_cons] at h
    obtain ⟨b, hb, h⟩ := Option.bind_eq_some_iff.1 h
    obtain ⟨bs, hbs, h⟩ := Option.bind_eq_some_iff.1 h
    cases i with
    | zero =>
      obtain rfl : x = a := by simpa using hi
      exact ⟨b, hb⟩
    | succ i => exact ih bs hbs i a (by simpa using hi)
theorem Opens.int {t : TypeId} {k : IntKind} (hu : P.underlying t = some (.int k)) : Opens P W (Kd.int k) (fun x => (Lit.int k x).wf = true) t := by
  intro H enc fuel cs y h
  obtain ⟨n, rfl, _, hw⟩ := DataW.trod_int hu h
  exact ⟨n, rfl, hw⟩
theorem Opens.bool {t : TypeId} (hu : P.underlying t = some .bool) : Opens P W Kd.bool (fun _ => True) t := by
  intro H enc fuel cs y h
  obtain ⟨n, rfl, _⟩ := DataW.trod_bool hu h
  exact ⟨n, rfl, trivial⟩
theorem Opens.string {t : TypeId} (hu : P.underlying t = some .string) : Opens P W Kd.string (fun s => s.size ≤ maxLen) t := by
  intro H enc fuel cs y h
  obtain ⟨n, rfl, _, hw⟩ := DataW.trod_string hu h
  exact ⟨n, rfl, hw⟩
theorem Opens.mono {α : Type} {d : Kd α} {wf wf' : α → Prop} {t : TypeId} (h : Opens P W d wf t) (hw : ∀ x, wf x → wf' x) : Opens P W d wf' t := by
  intro H enc fuel cs y hy
  obtain ⟨x, hx, hwf⟩ := h enc fuel cs y hy
  exact ⟨x, hx, hw x hwf⟩
/-- Cells in line, read one by one. -/
theorem cells_at {a : Addr} {n : Nat} {c : List Value} (h : W.cells? 0 a n = some c) : c.length = n ∧ ∀ i u, c[i]? = some u → W.cell? (a.add i) = some u := by
  unfold World.cells? at h
  rw [if_pos (Nat.zero_le _)] at h
  have key : ∀ (l : List Nat) (c : List Value), l.mapM (fun i => W.cell? (a.add i)) = some c → c.length = l.length ∧ ∀ (i : Nat) (k : Nat), l[i]? = some k → W.cell? (a.add k) = c[i]? := by
    intro l
    induction l with
    | nil => intro c h; simp at h; subst h; exact ⟨rfl, fun i k hk => by simp at hk⟩
    | cons x l ih =>
      intro c h
      rw [List.mapM_cons] at h
      obtain ⟨b, hb, h⟩ := Option.bind_eq_some_iff.1 h
      obtain ⟨bs, hbs, h⟩ := Option.bind_eq_some_iff.1 h
      obtain rfl := Option.some.inj h
      obtain ⟨h1, h2⟩ := ih bs hbs
      refine ⟨by simp [h1], fun i k hk => ?_⟩
      cases i with
      | zero =>
        obtain rfl : x = k := by simpa using hk
        simpa using hb
      | succ i => simpa using h2 i k (by simpa using hk)
  obtain ⟨h1, h2⟩ := key _ _ h
  rw [List.length_range] at h1
  refine ⟨h1, fun i u hu => ?_⟩
  have hi : i < n := by
    have := (List.getElem?_eq_some_iff.1 hu).1
    omega
  rw [h2 i i (by rw [List.getElem?_range hi])]
  exact hu
theorem add_add (a : Addr) (i j : Nat) : (a.add i).add j = a.add (i + j) := by
  unfold Addr.add
  by_cases hi : i = 0
  · subst hi
    simp
  · by_cases hj : j = 0
    · subst hj
      simp
    · simp [hi, hj, Nat.add_assoc]
theorem exists_list {α : Type} (Q : Nat → α → Prop) : ∀ n : Nat, (∀ i, i < n → ∃ x, Q i x) → ∃ xs : List α, xs.length = n ∧ ∀ i x, xs[i]? = some x → Q i x := by
  intro n
  induction n with
  | zero => exact fun _ => ⟨[], rfl, fun i x h => by simp at h⟩
  | succ n ih =>
    intro h
    obtain ⟨xs, hl, hx⟩ := ih (fun i hi => h i (by omega))
    obtain ⟨x, hq⟩ := h n (by omega)
    refine ⟨xs ++ [x], by simp [hl], fun i y hy => ?_⟩
    rcases Nat.lt_or_ge i n with hi | hi
    · rw [List.getElem?_append_left (by omega)] at hy
      exact hx i y hy
    · have : i = n := by
        have := (List.getElem?_eq_some_iff.1 hy).1
        simp at this
        omega
      subst this
      have e : x = y := by
        rw [← hl] at hy
        simpa using hy
      exact e ▸ hq
theorem Opens.slice {α : Type} {d : Kd α} {wf : α → Prop} {t e : TypeId} (hu : P.underlying t = some (.slice e)) (hsz : P.cellsOf e = d.sz) (he : Opens P W d wf e) :
    Opens P W (Kd.slice e d) (fun xs => xs.length ≤ maxLen ∧ ∀ x ∈ xs, wf x) t := by
  intro H enc fuel cs y h
  cases fuel with
  | zero => simp [DataW.trod] at h
  | succ fuel =>
    obtain ⟨a, l, c, rfl⟩ := Go.Joins.slice_form hu h
    unfold DataW.trod at h
    simp only [hu] at h
    cases a with
    | none =>
      have hlc : l = 0 ∧ c = 0 := by
        cases l with
        | zero => cases c with
          | zero => exact ⟨rfl, rfl⟩
          | succ c => simp at h
        | succ l => simp at h
      obtain ⟨rfl, rfl⟩ := hlc
      exact ⟨[], ⟨none, 0, rfl, Nat.le_refl _, ⟨rfl, by simp, fun h => absurd h (by simp)⟩⟩, by simp, fun x hx => by cases hx⟩
    | some a =>
      simp only at h
      split at h
      · rename_i hc
        obtain ⟨els, hels, _⟩ := Option.bind_eq_some_iff.1 h
        have hm : c ≤ 9223372036854775807 := by have := hc.2.2; unfold maxLen at this; exact this
        have each : ∀ i, i < l → ∃ x, ∃ cs', cs'.length = d.sz ∧ d.K W x cs' ∧ (∀ j u, cs'[j]? = some u → W.cell? (a.add (i * d.sz + j)) = some u) ∧ wf x := by
          intro i hi
          obtain ⟨b, hb⟩ := mapM_each _ _ _ hels i i (by rw [List.getElem?_range hi])
          obtain ⟨cs', hcs, hb⟩ := Option.bind_eq_some_iff.1 hb
          obtain ⟨x, hx, hwf⟩ := he enc _ _ _ hb
          obtain ⟨h1, h2⟩ := cells_at hcs
          refine ⟨x, cs', h1.trans hsz, hx, fun j u hu => ?_, hwf⟩
          have := h2 j u hu
          rwa [add_add, hsz] at this
        obtain ⟨xs, hl, hx⟩ := exists_list _ l each
        subst hl
        refine ⟨xs, ⟨some a, c, rfl, hc.2.1, ⟨rfl, by omega, fun _ => ⟨a, rfl, fun j p hj => ?_⟩⟩⟩, by have := hc.2.1; unfold maxLen; omega, fun x hx' => ?_⟩
        · obtain ⟨cs', h1, h2, h3, _⟩ := hx j p hj
          exact ⟨cs', h1, h2, h3⟩
        · obtain ⟨i, hi⟩ := List.getElem?_of_mem hx'
          obtain ⟨_, _, _, _, h4⟩ := hx i x hi
          exact h4
      · simp at h
/-- A struct's cells, field by field. -/
theorem struct_each {H : Type} {enc : TypeId × Value → H} {t : TypeId} {fs : Array Field} {fuel : Nat} {cs : List Value} {y : DataW H × List MemPlace} (hu : P.underlying t = some (.struct fs)) (h : DataW.trod enc P W 0 (fun _ => true) true fuel t cs = some y) :
    cs.length = P.cellsOf t ∧ ∃ n, ∀ (i : Nat) (f : Field), fs.toList[i]? = some f → ∃ z, DataW.trod enc P W 0 (fun _ => true) true n f.type ((cs.drop f.offset).take (P.cellsOf f.type)) = some z := by
  cases fuel with
  | zero => simp [DataW.trod] at h
  | succ fuel =>
    unfold DataW.trod at h
    simp only [hu] at h
    split at h
    · rename_i hl
      obtain ⟨xs, hxs, _⟩ := Option.map_eq_some_iff.1 h
      exact ⟨hl, fuel, fun i f hf => mapM_each _ _ _ hxs i f hf⟩
    · simp at h
theorem array_each {H : Type} {enc : TypeId × Value → H} {t e : TypeId} {n fuel : Nat} {cs : List Value} {y : DataW H × List MemPlace} (hu : P.underlying t = some (.array n e)) (h : DataW.trod enc P W 0 (fun _ => true) true fuel t cs = some y) :
    cs.length = P.cellsOf t ∧ ∃ m, ∀ i, i < n → ∃ z, DataW.trod enc P W 0 (fun _ => true) true m e ((cs.drop (i * P.cellsOf e)).take (P.cellsOf e)) = some z := by
  cases fuel with
  | zero => simp [DataW.trod] at h
  | succ fuel =>
    unfold DataW.trod at h
    simp only [hu] at h
    split at h
    · rename_i hl
      obtain ⟨xs, hxs, _⟩ := Option.map_eq_some_iff.1 h
      exact ⟨hl, fuel, fun i hi => mapM_each _ _ _ hxs i i (by rw [List.getElem?_range hi])⟩
    · simp at h
theorem pair_K {α β : Type} {a : Kd α} {b : Kd β} {x : α} {y : β} {cs : List Value} (n : Nat) (h1 : a.K W x (cs.take n)) (h2 : b.K W y (cs.drop n)) : (Kd.pair a b).K W (x, y) cs :=
  ⟨_, _, (List.take_append_drop n cs).symm, h1, h2⟩
/-- An argument of a slice type: its value, and what it reads as. -/
theorem arg_slice {α : Type} {d : Kd α} {wf : List α → Prop} {t e : TypeId} {H : Type} {enc : TypeId × Value → H} {a : Option Addr} {l c : Nat} {D : DataW H} {p : List MemPlace} (ho : Opens P W (Kd.slice e d) wf t)
    (h : DataW.Trod enc P W 0 (fun _ => true) true t (.slice a l c) D p) : ∃ xs : List α, l = xs.length ∧ Kd.C d W a xs.length xs ∧ xs.length ≤ c ∧ wf xs := by
  obtain ⟨fuel, hf⟩ := h
  obtain ⟨xs, ⟨A, c', hcs, hle, hC⟩, hw⟩ := ho enc fuel _ _ hf
  have he : Value.slice a l c = .slice A xs.length c' := by simpa [Value.cells] using hcs
  injection he with h1 h2 h3
  subst h1 h2 h3
  exact ⟨xs, rfl, hC, hle, hw⟩
theorem okWide_array {r : Reach} {base : Nat} {t e : TypeId} {n : Nat} {v : Value} (ht : P.underlying t = some (.array n e)) (h : Value.okWide P W r base t v) : ∃ cs, v = .agg cs ∧ cs.size = P.cellsOf t := by
  simp only [Value.okWide, ht] at h
  obtain ⟨cs, rfl, hs, _⟩ := h
  exact ⟨cs, rfl, hs⟩
/-- An argument of a struct or an array type: its cells, and what they read as. -/
theorem arg_agg {α : Type} {d : Kd α} {wf : α → Prop} {t : TypeId} {H : Type} {enc : TypeId × Value → H} {cs : Array Value} {D : DataW H} {p : List MemPlace} (ho : Opens P W d wf t)
    (h : DataW.Trod enc P W 0 (fun _ => true) true t (.agg cs) D p) : ∃ x : α, d.K W x cs.toList ∧ wf x := by
  obtain ⟨fuel, hf⟩ := h
  exact ho enc fuel _ _ hf
end
end Go.Proofs.YtdbfclfglpbpmaaW.Opens
