/- Regions that draw their order, with stores, told by what each operation yields. No condition. -/
import Derived.Test.YthcpfkkddfgamaaLabT
namespace Go.AnyFacts
open Go Go.RowKit
open Go.Proofs.YthcpfkkddfgamaaW.Hand Go.Proofs.YthcpfkkddfgamaaW.PrintWords Go.Proofs.YthcpfkkddfgamaaW.PrintLast Go.Proofs.YthcpfkkddfgamaaW.PrintMore Go.Proofs.Ythcpfkkddfgamaa.PF04A Go.Proofs.Ythcpfkkddfgamaa.Base Go.Proofs.Ythcpfkkddfgamaa.LF04A Go.Proofs.Ythcpfkkddfgamaa.Sha
set_option linter.unusedVariables false
set_option linter.unusedSimpArgs false
section
variable {P : Program} {ops : Array Oper} {Q : Exit → Act → World → Prop}
variable (ops) (N : Nat) (t : Nat → Value → World → Prop) (fresh : Nat → Bool) (tgt : Nat → Option Nat) (a0 : Act) (w0 : World)
/-- Where the value lies that an operation's fact speaks of: its own slot, or (a store) that of the block it writes to. -/
def slotTo (i : Nat) (a : Act) : Value := match tgt i with
  | some k => slotOf ops a k
  | none => slotOf ops a i
/-- w' is w but for block g. -/
structure But (w w' : World) (g : Nat) : Prop where
  os : w'.os = w.os
  tape : w'.tape = w.tape
  output : w'.output = w.output
  size : w'.heap.size = w.heap.size
  block : ∀ k, k ≠ g → w'.heap[k]? = w.heap[k]?
structure Held2 (did : Nat → Prop) (a : Act) (w : World) : Prop where
  size : a.tmps.size = N
  defers : a.defers = a0.defers
  kept : ∀ s, writes ops ops.size s = false → a.eval (.tmp s) = a0.eval (.tmp s)
  below : Below w0.heap.size w0 w
  fact : ∀ i, i < ops.size → did i → t i (slotTo ops tgt i a) w
  new : ∀ i, i < ops.size → did i → fresh i = true → ∃ g, blk (slotOf ops a i) = some g ∧ w0.heap.size ≤ g ∧ g < w.heap.size
  apart : ∀ i j, i < ops.size → j < ops.size → i ≠ j → did i → did j → fresh i = true → fresh j = true → blk (slotOf ops a i) ≠ blk (slotOf ops a j)
/-- What a store brings about. -/
def StepS (P : Program) (Q : Exit → Act → World → Prop) (i k : Nat) (o : Oper) (a : Act) (w : World) : Prop :=
  Region.wanted o (yielded ops a.tmps) = true ∧ o.wp P a w (fun a' w' => a' = a ∧ ∃ g, blk (slotOf ops a k) = some g ∧ But w w' g ∧ t i (slotOf ops a k) w' ∧ t k (slotOf ops a k) w') Q
/-- A fact that stays where another block is written to. -/
def Firm (i : Nat) : Prop := (∀ v w w', t i v w → t i v w') ∨ ((fresh i = true ∨ ∃ k, tgt i = some k ∧ fresh k = true) ∧ ∀ v w w' g, t i v w → blk v ≠ some g → (∀ k, k ≠ g → w'.heap[k]? = w.heap[k]?) → t i v w')
variable {ops N t fresh tgt a0 w0}
theorem region_facts2 {id : Nat} {a : Act} {w : World} (hm : P.follows .mixedOrders = true) (t : Nat → Value → World → Prop) (fresh : Nat → Bool) (tgt : Nat → Option Nat)
    (hp : plainB ops ops.size = true) (hst : ∀ i v w w', t i v w → Below w.heap.size w w' → t i v w') (hfirm : ∀ i, i < ops.size → Firm t fresh tgt i)
    (htg : ∀ i k, i < ops.size → tgt i = some k → k < ops.size ∧ tgt k = none ∧ fresh k = true ∧ fresh i = false ∧ depOn ops i k = true ∧ (∀ o, ops[i]? = some o → o.dst = none) ∧ ∀ j, j < ops.size → tgt j = some k → j = i)
    (hdst : ∀ i o, i < ops.size → tgt i = none → ops[i]? = some o → ∃ d, o.dst = some d ∧ d < a.tmps.size)
    (hop : ∀ i o, i < ops.size → tgt i = none → ops[i]? = some o → ∀ did a' w', Held2 ops a.tmps.size t fresh tgt a w.drew did a' w' → (∀ j, depOn ops i j = true → did j) → Step ops t fresh P Q i o a' w')
    (hopS : ∀ i k o, i < ops.size → tgt i = some k → ops[i]? = some o → ∀ did a' w', Held2 ops a.tmps.size t fresh tgt a w.drew did a' w' → (∀ j, depOn ops i j = true → did j) → StepS ops t P Q i k o a' w')
    (hfin : ∀ a' w', Held2 ops a.tmps.size t fresh tgt a w.drew (fun _ => True) a' w' → Region.ready .any ops (Array.replicate ops.size true) = [] → Q .normal a' w') :
    (Code.region id ops true).wp P Q a w := by
  refine wp_region_any hm ?_
  suffices H : ∀ (fuel : Nat) (listed : Array Bool) (a' : Act) (w' : World), listed.size = ops.size → listed.toList.count false = fuel →
      (∀ i o, ops[i]? = some o → listed.getD i false = true → ∀ e ∈ o.after, Region.binds .any e = true → listed.getD e.on false = true) →
      Held2 ops a.tmps.size t fresh tgt a w.drew (fun i => listed.getD i false = true) a' w' → wpAny P .any ops Q fuel listed a' w' by
    refine H ops.size _ a w.drew (by simp) (by simp) ?_ ?_
    · intro i o ho hi
      have hlt := (Array.getElem?_eq_some_iff.1 ho).1
      simp [hlt] at hi
    · refine ⟨rfl, rfl, fun s _ => rfl, Below.refl _ _, fun i hi hd => ?_, fun i hi hd => ?_, fun i j hi hj hne hd => ?_⟩ <;> simp [hi] at hd
  intro fuel
  have full : ∀ (listed : Array Bool), listed.size = ops.size → (∀ i, i < ops.size → listed.getD i false = true) → listed = Array.replicate ops.size true := by
    intro listed hsz hall
    apply Array.ext_getElem?
    intro i
    rcases Nat.lt_or_ge i listed.size with hi | hi
    · have := hall i (by omega)
      simp only [Array.getD_eq_getD_getElem?, hi, Array.getElem?_eq_getElem, Option.getD_some] at this
      rw [Array.getElem?_eq_getElem hi, this, Array.getElem?_eq_getElem (by simp; omega)]
      simp
    · rw [Array.getElem?_eq_none hi, Array.getElem?_eq_none (by simp; omega)]
  have readyFull : Region.ready .any ops (Array.replicate ops.size true) = [] := by
    cases hr : Region.ready .any ops (Array.replicate ops.size true) with
    | nil => rfl
    | cons x xs =>
      have hx : x ∈ Region.ready .any ops (Array.replicate ops.size true) := by rw [hr]; simp
      obtain ⟨h0, _⟩ := mem_ready.1 hx
      by_cases hlt : x < ops.size <;> simp [hlt] at h0
  have done : ∀ (listed : Array Bool) (a' : Act) (w' : World) (fuel : Nat), listed.size = ops.size → Held2 ops a.tmps.size t fresh tgt a w.drew (fun i => listed.getD i false = true) a' w' → (∀ i, i < ops.size → listed.getD i false = true) → wpAny P .any ops Q fuel listed a' w' := by
    intro listed a' w' fuel hsz hH hall
    rw [full listed hsz hall]
    exact wpAny_done readyFull (hfin a' w' ⟨hH.size, hH.defers, hH.kept, hH.below, fun i hi _ => hH.fact i hi (hall i hi), fun i hi _ => hH.new i hi (hall i hi), fun i j hi hj hne _ _ => hH.apart i j hi hj hne (hall i hi) (hall j hj)⟩ readyFull) fuel
  induction fuel with
  | zero =>
    intro listed a' w' hsz hct hcl hH
    refine done listed a' w' 0 hsz hH fun i hi => ?_
    have hil : i < listed.size := by omega
    cases hb : listed[i] with
    | true => simp [hil, hb]
    | false =>
      have := count_pos listed.toList i (by simp [hil, hb])
      omega
  | succ fuel ih =>
    intro listed a' w' hsz hct hcl hH
    by_cases hall : ∀ i, i < ops.size → listed.getD i false = true
    · exact done listed a' w' (fuel + 1) hsz hH hall
    · have hex : ∃ i, i < ops.size ∧ listed.getD i false = false := by
        apply Classical.byContradiction
        intro hn
        apply hall
        intro i hi
        cases hb : listed.getD i false with
        | true => rfl
        | false => exact absurd ⟨i, hi, hb⟩ hn
      have hleast : ∃ i, i < ops.size ∧ listed.getD i false = false ∧ ∀ j, j < i → listed.getD j false = true := by
        obtain ⟨i, hi, hb⟩ := hex
        induction i using Nat.strongRecOn with
        | ind i ihi =>
          by_cases hj : ∃ j, j < i ∧ listed.getD j false = false
          · obtain ⟨j, hji, hjb⟩ := hj
            exact ihi j hji (by omega) hjb
          · refine ⟨i, hi, hb, fun j hji => ?_⟩
            cases hbj : listed.getD j false with
            | true => rfl
            | false => exact absurd ⟨j, hji, hbj⟩ hj
      have hne : Region.ready .any ops listed ≠ [] := by
        obtain ⟨i, hi, hb, hlow⟩ := hleast
        have hmem : i ∈ Region.ready .any ops listed := by
          rw [mem_ready]
          refine ⟨by rw [getD_flip (by omega)]; exact hb, ops[i], by simp [hi], fun e he hbnd => hlow _ (plain_back hp (i := i) (o := ops[i]) (by simp [hi]) e he hbnd)⟩
        intro h0
        rw [h0] at hmem
        cases hmem
      refine ⟨fun h0 => absurd h0 hne, fun i hir => ?_⟩
      obtain ⟨hun, o, ho, hall2⟩ := mem_ready.1 hir
      have hlt : i < ops.size := (Array.getElem?_eq_some_iff.1 ho).1
      have hunf : listed.getD i false = false := by rw [← getD_flip (by omega)]; exact hun
      have hdep : ∀ j, depOn ops i j = true → listed.getD j false = true := by
        intro j hd
        unfold depOn at hd
        simp only [ho] at hd
        obtain ⟨e, he, hb⟩ := Array.any_eq_true'.1 hd
        simp only [Bool.and_eq_true, beq_iff_eq] at hb
        rw [← hb.2]
        exact hall2 e he hb.1
      have hset : ∀ k, (listed.setIfInBounds i true).getD k false = true → (listed.getD k false = true ∨ k = i) := by
        intro k hk
        by_cases hki : k = i
        · exact .inr hki
        · rw [getD_set_ne false (Ne.symm hki)] at hk
          exact .inl hk
      have hcount : (listed.setIfInBounds i true).toList.count false = fuel := by
        have := count_set listed.toList i (by
          have hil : i < listed.size := by omega
          simp only [Array.getD_eq_getD_getElem?, hil, Array.getElem?_eq_getElem, Option.getD_some] at hunf
          simp [hil, hunf])
        rw [Array.toList_setIfInBounds]
        omega
      have hclosed : ∀ k ok, ops[k]? = some ok → (listed.setIfInBounds i true).getD k false = true → ∀ e ∈ ok.after, Region.binds .any e = true → (listed.setIfInBounds i true).getD e.on false = true := by
        intro k ok hok hk e he hbnd
        by_cases hki : k = i
        · subst hki
          rw [ho] at hok
          injection hok with hok
          subst hok
          exact getD_set_true (hall2 e he hbnd)
        · rw [getD_set_ne false (Ne.symm hki)] at hk
          exact getD_set_true (hcl k ok hok hk e he hbnd)
      cases htg0 : tgt i with
      | none =>
        have hs := hop i o hlt htg0 ho (fun i => listed.getD i false = true) a' w' hH hdep
        obtain ⟨d, hd1, hd2⟩ := hdst i o hlt htg0 ho
        have next : ∀ v w'', Below w'.heap.size w' w'' → t i v w'' → (fresh i = true → ∃ g, blk v = some g ∧ w'.heap.size ≤ g ∧ g < w''.heap.size) → wpAny P .any ops Q fuel (listed.setIfInBounds i true) (a'.put o.dst v) w'' := by
          intro v w'' hb hv hf
          have hsame : slotOf ops (a'.put o.dst v) i = v := by
            unfold slotOf
            simp only [ho, hd1]
            exact eval_put_same a' d v (by rw [hH.size]; exact hd2)
          have hother : ∀ k, k < ops.size → k ≠ i → slotOf ops (a'.put o.dst v) k = slotOf ops a' k := by
            intro k hk hne
            unfold slotOf
            cases hok : ops[k]? with
            | none => rfl
            | some ok =>
              cases hdk : ok.dst with
              | none => simp only [hdk]
              | some e => simp only [hdk]; exact eval_put_ne a' o.dst e v (by rw [hd1]; intro h'; injection h' with h'; subst h'; exact plain_dst hp k i ok o d hk hlt hne hok ho hdk hd1)
          have hdid : ∀ k, (listed.setIfInBounds i true).getD k false = true → k ≠ i → listed.getD k false = true := fun k hk hne => (hset k hk).resolve_right hne
          refine ih _ _ _ (by simpa using hsz) hcount hclosed ⟨by rw [size_put, hH.size], by rw [defers_put, hH.defers], fun s hs => ?_, ⟨hb.os.trans hH.below.os, hb.tape.trans hH.below.tape, hb.output.trans hH.below.output, Nat.le_trans hH.below.size hb.size, fun k hk => (hb.block k (Nat.lt_of_lt_of_le hk hH.below.size)).trans (hH.below.block k hk)⟩, fun k hk hd => ?_, fun k hk hd hfk => ?_, fun k j hk hj hne hdk hdj hfk hfj => ?_⟩
          · rw [eval_put_ne a' o.dst s v ?_]
            · exact hH.kept s hs
            · intro e
              unfold writes at hs
              rw [List.any_eq_false] at hs
              have := hs i (by rw [List.mem_range]; exact hlt)
              simp [ho, e] at this
          · by_cases hki : k = i
            · subst hki
              unfold slotTo
              simp only [htg0]
              rw [hsame]
              exact hv
            · have hto : slotTo ops tgt k (a'.put o.dst v) = slotTo ops tgt k a' := by
                unfold slotTo
                cases htk : tgt k with
                | none => simp only [htk]; exact hother k hk hki
                | some q =>
                  simp only [htk]
                  obtain ⟨hq, _, _, _, hqd, _⟩ := htg k q hk htk
                  have hqi : q ≠ i := by
                    intro e
                    subst e
                    have hkd := hdid k hd hki
                    have hko : ops[k]? = some ops[k] := by simp [hk]
                    have : listed.getD q false = true := by
                      unfold depOn at hqd
                      simp only [hko] at hqd
                      obtain ⟨e, he, hb'⟩ := Array.any_eq_true'.1 hqd
                      simp only [Bool.and_eq_true, beq_iff_eq] at hb'
                      rw [← hb'.2]
                      exact hcl k _ hko hkd e he hb'.1
                    rw [hunf] at this
                    cases this
                  exact hother q hq hqi
              rw [hto]
              exact hst _ _ _ _ (hH.fact k hk (hdid k hd hki)) hb
          · by_cases hki : k = i
            · subst hki
              rw [hsame]
              obtain ⟨g, h1, h2, h3⟩ := hf hfk
              exact ⟨g, h1, Nat.le_trans hH.below.size h2, h3⟩
            · rw [hother k hk hki]
              obtain ⟨g, h1, h2, h3⟩ := hH.new k hk (hdid k hd hki) hfk
              exact ⟨g, h1, h2, Nat.lt_of_lt_of_le h3 hb.size⟩
          · by_cases hki : k = i
            · subst hki
              rw [hsame, hother j hj (Ne.symm hne)]
              obtain ⟨g, h1, h2, h3⟩ := hf hfk
              obtain ⟨g', h1', h2', h3'⟩ := hH.new j hj (hdid j hdj (Ne.symm hne)) hfj
              rw [h1, h1']
              intro e
              injection e with e
              omega
            · by_cases hji : j = i
              · subst hji
                rw [hsame, hother k hk hki]
                obtain ⟨g, h1, h2, h3⟩ := hf hfj
                obtain ⟨g', h1', h2', h3'⟩ := hH.new k hk (hdid k hdk hki) hfk
                rw [h1, h1']
                intro e
                injection e with e
                omega
              · rw [hother k hk hki, hother j hj hji]
                exact hH.apart k j hk hj hne (hdid k hdk hki) (hdid j hdj hji) hfk hfj
        unfold Step at hs
        unfold wpOp
        simp only [ho]
        by_cases hw : Region.wanted o (yielded ops a'.tmps) = true
        · rw [if_pos hw] at hs
          rw [if_pos hw]
          refine .inl (Oper.wp_mono ?_ hs)
          rintro a'' w'' ⟨v, rfl, hb, hv, hf⟩
          exact next v w'' hb hv hf
        · rw [if_neg hw] at hs
          rw [if_neg hw]
          exact next undef w' (Below.refl _ _) hs.1 (fun h => by rw [hs.2] at h; cases h)
      | some k =>
        obtain ⟨hk, htk, hfk, hfi, hdk, hnd, huniq⟩ := htg i k hlt htg0
        obtain ⟨hw, hs⟩ := hopS i k o hlt htg0 ho (fun i => listed.getD i false = true) a' w' hH hdep
        unfold wpOp
        simp only [ho]
        rw [if_pos hw]
        refine .inl (Oper.wp_mono ?_ hs)
        rintro a'' w'' ⟨rfl, g, hg, hbut, hti, htk'⟩
        have hkd := hdep k hdk
        obtain ⟨g', hg1, hg2, hg3⟩ := hH.new k hk hkd hfk
        have hgg : g' = g := by rw [hg] at hg1; injection hg1 with e; exact e.symm
        subst hgg
        refine ih _ _ _ (by simpa using hsz) hcount hclosed ⟨hH.size, hH.defers, hH.kept, ⟨hbut.os.trans hH.below.os, hbut.tape.trans hH.below.tape, hbut.output.trans hH.below.output, by rw [hbut.size]; exact hH.below.size, fun j hj => (hbut.block j (by omega)).trans (hH.below.block j hj)⟩, fun j hj hd => ?_, fun j hj hd hfj => ?_, fun j l hj hl hne hdj hdl hfj hfl => ?_⟩
        · by_cases hji : j = i
          · subst hji
            unfold slotTo
            simp only [htg0]
            exact hti
          · have hjd := (hset j hd).resolve_right hji
            by_cases hjk : j = k
            · subst hjk
              unfold slotTo
              simp only [htk]
              exact htk'
            · rcases hfirm j hj with h1 | ⟨h1, h2⟩
              · exact h1 _ _ _ (hH.fact j hj hjd)
              · refine h2 _ w' _ g' (hH.fact j hj hjd) ?_ hbut.block
                unfold slotTo
                cases htj : tgt j with
                | none =>
                  simp only [htj]
                  rcases h1 with h1 | ⟨q, hq, _⟩
                  · rw [← hg]
                    exact hH.apart j k hj hk hjk hjd hkd h1 hfk
                  · rw [htj] at hq
                    cases hq
                | some q =>
                  simp only [htj]
                  obtain ⟨hq, _, hfq, _, hqd, _, _⟩ := htg j q hj htj
                  have hqk : q ≠ k := by
                    intro e
                    subst e
                    exact hji (huniq j hj htj)
                  have hqd' : listed.getD q false = true := by
                    have hjo : ops[j]? = some ops[j] := by simp [hj]
                    unfold depOn at hqd
                    simp only [hjo] at hqd
                    obtain ⟨e, he, hb'⟩ := Array.any_eq_true'.1 hqd
                    simp only [Bool.and_eq_true, beq_iff_eq] at hb'
                    rw [← hb'.2]
                    exact hcl j _ hjo hjd e he hb'.1
                  rw [← hg]
                  exact hH.apart q k hq hk hqk hqd' hkd hfq hfk
        · have hji : j ≠ i := by intro e; subst e; rw [hfi] at hfj; cases hfj
          obtain ⟨x, h1, h2, h3⟩ := hH.new j hj ((hset j hd).resolve_right hji) hfj
          exact ⟨x, h1, h2, by rw [hbut.size]; exact h3⟩
        · have hji : j ≠ i := by intro e; subst e; rw [hfi] at hfj; cases hfj
          have hli : l ≠ i := by intro e; subst e; rw [hfi] at hfl; cases hfl
          exact hH.apart j l hj hl hne ((hset j hdj).resolve_right hji) ((hset l hdl).resolve_right hli) hfj hfl
end
section
variable {P : Program} {ops : Array Oper} {Q : Exit → Act → World → Prop}
def tgtB (ops : Array Oper) (tgt : Nat → Option Nat) (fresh : Nat → Bool) : Bool := (List.range ops.size).all fun i => match tgt i with
  | none => true
  | some k => decide (k < ops.size) && (tgt k == none) && fresh k && !fresh i && depOn ops i k && (match ops[i]? with | some o => o.dst == none | none => true) && (List.range ops.size).all fun j => !(tgt j == some k) || decide (j = i)
theorem tgt_of {tgt : Nat → Option Nat} {fresh : Nat → Bool} (h : tgtB ops tgt fresh = true) : ∀ i k, i < ops.size → tgt i = some k → k < ops.size ∧ tgt k = none ∧ fresh k = true ∧ fresh i = false ∧ depOn ops i k = true ∧ (∀ o, ops[i]? = some o → o.dst = none) ∧ ∀ j, j < ops.size → tgt j = some k → j = i := by
  intro i k hi hk
  unfold tgtB at h
  rw [List.all_eq_true] at h
  have := h i (by rw [List.mem_range]; exact hi)
  simp only [hk, Bool.and_eq_true, decide_eq_true_eq, beq_iff_eq, Bool.not_eq_true', List.all_eq_true, List.mem_range, Bool.or_eq_true] at this
  obtain ⟨⟨⟨⟨⟨⟨h1, h2⟩, h3⟩, h4⟩, h5⟩, h6⟩, h7⟩ := this
  refine ⟨h1, h2, h3, h4, h5, fun o ho => ?_, fun j hj hjk => ?_⟩
  · simp only [ho, beq_iff_eq] at h6
    exact h6
  · rcases h7 j hj with h8 | h8
    · simp [hjk] at h8
    · exact h8
def dstB2 (ops : Array Oper) (tgt : Nat → Option Nat) (N : Nat) : Bool := (List.range ops.size).all fun i => match ops[i]? with
  | some o => match o.dst with | some d => decide (d < N) | none => !(tgt i == none)
  | none => true
theorem dst_of2 {tgt : Nat → Option Nat} {N : Nat} (h : dstB2 ops tgt N = true) : ∀ i o, i < ops.size → tgt i = none → ops[i]? = some o → ∃ d, o.dst = some d ∧ d < N := by
  intro i o hi ht ho
  unfold dstB2 at h
  rw [List.all_eq_true] at h
  have := h i (by rw [List.mem_range]; exact hi)
  simp only [ho] at this
  cases hd : o.dst with
  | none => simp [hd, ht] at this
  | some d => simp only [hd, decide_eq_true_eq] at this; exact ⟨d, rfl, this⟩
inductive AllFirm (t : Nat → Value → World → Prop) (fresh : Nat → Bool) (tgt : Nat → Option Nat) : Nat → Nat → Prop
  | nil {n} : AllFirm t fresh tgt n n
  | cons {i n} : Firm t fresh tgt i → AllFirm t fresh tgt (i + 1) n → AllFirm t fresh tgt i n
theorem AllFirm.spec {t : Nat → Value → World → Prop} {fresh : Nat → Bool} {tgt : Nat → Option Nat} : ∀ {i n : Nat}, AllFirm t fresh tgt i n → ∀ j, i ≤ j → j < n → Firm t fresh tgt j := by
  intro i n h
  induction h with
  | nil => intro j h1 h2; omega
  | @cons i n h1 h2 ih =>
    intro j h3 h4
    by_cases e : j = i
    · subst e; exact h1
    · exact ih j (by omega) h4
theorem firm_val {t : Nat → Value → World → Prop} {fresh : Nat → Bool} {tgt : Nat → Option Nat} {i : Nat} (h : ∀ v w w', t i v w → t i v w') : Firm t fresh tgt i := .inl h
/-- A block of so many cells of a type. -/
def Shape (n : Nat) (ty : TypeId) (v : Value) (w : World) : Prop := ∃ g cs, v = .pointer (some ⟨g, 0, none⟩) ∧ w.heap[g]? = some (.cells cs ty (0, 0)) ∧ cs.size = n
theorem stab_shape (n : Nat) (ty : TypeId) : Stab (Shape n ty) := fun v w w' ⟨g, cs, h1, h2, h3⟩ hb => ⟨g, cs, h1, (hb.block g (Array.getElem?_eq_some_iff.1 h2).1).trans h2, h3⟩
theorem firm_shape {t : Nat → Value → World → Prop} {fresh : Nat → Bool} {tgt : Nat → Option Nat} {i n : Nat} {ty : TypeId} (e : t i = Shape n ty) (h : fresh i = true) : Firm t fresh tgt i := by
  refine .inr ⟨.inl h, ?_⟩
  rw [e]
  rintro v w w' g ⟨g1, cs, rfl, h2, h3⟩ hne hb
  exact ⟨g1, cs, rfl, (hb g1 (fun e => hne (by simp [blk, e]))).trans h2, h3⟩
/-- A block of these very cells. -/
def Is (cs : Array Value) (ty : TypeId) (v : Value) (w : World) : Prop := ∃ g, v = .pointer (some ⟨g, 0, none⟩) ∧ w.heap[g]? = some (.cells cs ty (0, 0))
theorem stab_is (cs : Array Value) (ty : TypeId) : Stab (Is cs ty) := fun v w w' ⟨g, h1, h2⟩ hb => ⟨g, h1, (hb.block g (Array.getElem?_eq_some_iff.1 h2).1).trans h2⟩
theorem firm_is {t : Nat → Value → World → Prop} {fresh : Nat → Bool} {tgt : Nat → Option Nat} {i k : Nat} {cs : Array Value} {ty : TypeId} (e : t i = Is cs ty) (h : fresh i = true ∨ ∃ k, tgt i = some k ∧ fresh k = true) : Firm t fresh tgt i := by
  refine .inr ⟨h, ?_⟩
  rw [e]
  rintro v w w' g ⟨g1, rfl, h2⟩ hne hb
  exact ⟨g1, rfl, (hb g1 (fun e => hne (by simp [blk, e]))).trans h2⟩
def F2 (ops : Array Oper) (N : Nat) (t : Nat → Value → World → Prop) (fresh : Nat → Bool) (tgt : Nat → Option Nat) (a0 : Act) (w0 : World) (P : Program) (Q : Exit → Act → World → Prop) (i : Nat) (o : Oper) : Prop :=
  (tgt i = none → ∀ did a' w', Held2 ops N t fresh tgt a0 w0 did a' w' → (∀ j, depOn ops i j = true → did j) → Step ops t fresh P Q i o a' w') ∧ ∀ k, tgt i = some k → ∀ did a' w', Held2 ops N t fresh tgt a0 w0 did a' w' → (∀ j, depOn ops i j = true → did j) → StepS ops t P Q i k o a' w'
theorem F2.norm {N : Nat} {t : Nat → Value → World → Prop} {fresh : Nat → Bool} {tgt : Nat → Option Nat} {a0 : Act} {w0 : World} {i : Nat} {o : Oper} (hn : tgt i = none) (h : ∀ did a' w', Held2 ops N t fresh tgt a0 w0 did a' w' → (∀ j, depOn ops i j = true → did j) → Step ops t fresh P Q i o a' w') : F2 ops N t fresh tgt a0 w0 P Q i o :=
  ⟨fun _ => h, fun k hk => by rw [hn] at hk; cases hk⟩
theorem F2.store {N : Nat} {t : Nat → Value → World → Prop} {fresh : Nat → Bool} {tgt : Nat → Option Nat} {a0 : Act} {w0 : World} {i : Nat} {o : Oper} (k : Nat) (hn : tgt i = some k) (h : ∀ did a' w', Held2 ops N t fresh tgt a0 w0 did a' w' → (∀ j, depOn ops i j = true → did j) → StepS ops t P Q i k o a' w') : F2 ops N t fresh tgt a0 w0 P Q i o :=
  ⟨fun h0 => (by rw [hn] at h0; cases h0), fun k' hk => by rw [hn] at hk; injection hk with hk; subst hk; exact h⟩
theorem region_all2 {id : Nat} {a : Act} {w : World} (hm : P.follows .mixedOrders = true) (t : Nat → Value → World → Prop) (fresh : Nat → Bool) (tgt : Nat → Option Nat)
    (hp : plainB ops ops.size = true) (hst : ∀ i v w w', t i v w → Below w.heap.size w w' → t i v w') (hfirm : AllFirm t fresh tgt 0 ops.size) (htg : tgtB ops tgt fresh = true) (hdst : dstB2 ops tgt a.tmps.size = true)
    (hop : EachOp (F2 ops a.tmps.size t fresh tgt a w.drew P Q) 0 (ops.toList.take ops.size))
    (hfin : ∀ a' w', Held2 ops a.tmps.size t fresh tgt a w.drew (fun _ => True) a' w' → Q .normal a' w') :
    (Code.region id ops true).wp P Q a w :=
  region_facts2 hm t fresh tgt hp hst (fun i hi => hfirm.spec i (Nat.zero_le _) hi) (tgt_of htg) (dst_of2 hdst) (fun i o hi ht ho => (EachOp.of hop i o hi ho).1 ht) (fun i k o hi ht ho => (EachOp.of hop i o hi ho).2 k ht) (fun a' w' h _ => hfin a' w' h)
theorem A_store {t : Nat → Value → World → Prop} {i k : Nat} {o : Oper} {a : Act} {w : World} (hw : Region.wanted o (yielded ops a.tmps) = true) (hd : o.dst = none) (ty : TypeId) (x y : Operand) (ho : o.op = .store ty x y) (g : Nat) (hx : a.eval x = .pointer (some ⟨g, 0, none⟩)) (hk : slotOf ops a k = .pointer (some ⟨g, 0, none⟩)) (cs : Array Value) (hy : a.eval y = .agg cs)
    (tt : TypeId) (old : Array Value) (hg : w.heap[g]? = some (.cells old tt (0, 0))) (hs : old.size = cs.size) (hi : (P.info? ty).map (·.size) = some cs.size) (h1 : cs.all (·.oneCell') = true)
    (h : ∀ w', w'.heap[g]? = some (.cells cs tt (0, 0)) → t i (.pointer (some ⟨g, 0, none⟩)) w' ∧ t k (.pointer (some ⟨g, 0, none⟩)) w') : StepS ops t P Q i k o a w := by
  refine ⟨hw, wp_store_row ty x y ho g cs hx hy tt old hg hi hs h1 ?_⟩
  rw [hd, hk]
  have := h _ (setRow_heap w g old cs tt (0, 0) hg)
  exact ⟨rfl, g, rfl, ⟨rfl, rfl, rfl, setRow_size w g cs, fun k hk => setRow_other w g k cs hk⟩, this.1, this.2⟩
/-- The place of an element of an array of parts of s cells. -/
theorem A_ixarrs {t : Nat → Value → World → Prop} {fresh : Nat → Bool} {i : Nat} {o : Oper} {a : Act} {w : World} (hw : Region.wanted o (yielded ops a.tmps) = true) (ty e : TypeId) (n s : Nat) (x y : Operand) (ho : o.op = .indexAddr ty x y) (ht : P.underlying ty = some (.array n e)) (hsz : (P.info? e).map (·.size) = some s) (g : Nat) (hx : a.eval x = .pointer (some ⟨g, 0, none⟩)) (k : Nat) (hy : a.eval y = .int .i64 (k : Int)) (hk : k < n)
    (hv : t i (.pointer (some ⟨g, k * s, none⟩)) w) (hf : fresh i = false) : Step ops t fresh P Q i o a w := by
  refine A_value hw _ ?_ hv hf
  cases hq : P.info? e with
  | none => simp [hq] at hsz
  | some ii =>
    have hs : ii.size = s := by simpa [hq] using hsz
    simp [execOp, ho, hx, hy, Instr.indexAt, Instr.sureAddr, asIntOf, run_underlying ht, sizeOf, typeInfo, hq, hs, Addr.add_lit]
    omega
/-- One cell is read. -/
theorem A_load1 {t : Nat → Value → World → Prop} {fresh : Nat → Bool} {i : Nat} {o : Oper} {a : Act} {w : World} (hw : Region.wanted o (yielded ops a.tmps) = true) (ty : TypeId) (x : Operand) (ho : o.op = .load ty x) (d : TypeDesc) (ht : P.underlying ty = some d) (hd : (match d with | .struct _ | .array _ _ => false | _ => true) = true) (ad : Addr) (hx : a.eval x = .pointer (some ad)) (v : Value) (hc : w.cell? ad = some v)
    (hv : t i v w) (hf : fresh i = false) : Step ops t fresh P Q i o a w := by
  refine A_value hw _ ?_ hv hf
  have : (isAgg ty).run P w = .ok false w := by
    cases d <;> first | (simp at hd; done) | simp [isAgg, run_underlying ht]
  simp [execOp, ho, hx, Instr.loadAt, Instr.sureAddr, loadVar, this, run_load, hc]
/-- Two cells are read as a whole. -/
theorem A_load2 {t : Nat → Value → World → Prop} {fresh : Nat → Bool} {i : Nat} {o : Oper} {a : Act} {w : World} (hw : Region.wanted o (yielded ops a.tmps) = true) (ty : TypeId) (x : Operand) (ho : o.op = .load ty x) (n : Nat) (e : TypeId) (ht : P.underlying ty = some (.array n e)) (hsz : (P.info? ty).map (·.size) = some 2) (g q : Nat) (hx : a.eval x = .pointer (some ⟨g, q, none⟩)) (u v : Value) (hc : w.cell? ⟨g, q, none⟩ = some u) (hc2 : w.cell? ⟨g, q + 1, none⟩ = some v)
    (hv : t i (.agg #[u, v]) w) (hf : fresh i = false) : Step ops t fresh P Q i o a w := by
  refine A_value hw _ ?_ hv hf
  cases hq : P.info? ty with
  | none => simp [hq] at hsz
  | some ii =>
    have hs : ii.size = 2 := by simpa [hq] using hsz
    simp [execOp, ho, hx, Instr.loadAt, Instr.sureAddr, loadVar, isAgg, run_underlying ht, sizeOf, typeInfo, hq, hs, loadCells, loadCellsFrom, run_load, Addr.add_lit, hc, hc2]
end
/-- A frame with some slots written. -/
def puts (a : Act) : List (Nat × Value) → Act
  | [] => a
  | (d, v) :: l => puts (a.put (some d) v) l
inductive EvalsL (a : Act) : List (Nat × Value) → Prop
  | nil : EvalsL a []
  | cons {d : Nat} {v : Value} {l : List (Nat × Value)} : a.eval (.tmp d) = v → EvalsL a l → EvalsL a ((d, v) :: l)
theorem EvalsL.mem {a : Act} : ∀ {l : List (Nat × Value)}, EvalsL a l → ∀ d v, (d, v) ∈ l → a.eval (.tmp d) = v := by
  intro l h
  induction h with
  | nil => intro d v h; cases h
  | cons h1 h2 ih =>
    intro d v h
    rcases List.mem_cons.1 h with e | e
    · injection e with e1 e2; subst e1 e2; exact h1
    · exact ih d v e
def keysB (ops : Array Oper) (m : Nat) (l : List (Nat × Value)) : Bool := (List.range m).all fun i => match ops[i]? with
  | some o => match o.dst with | some d => l.any fun x => x.1 == d | none => true
  | none => true
theorem puts_size (l : List (Nat × Value)) : ∀ a : Act, (puts a l).tmps.size = a.tmps.size := by
  induction l with
  | nil => intro a; rfl
  | cons x l ih => intro a; obtain ⟨d, v⟩ := x; show (puts (a.put (some d) v) l).tmps.size = _; rw [ih, size_put]
theorem puts_defers (l : List (Nat × Value)) : ∀ a : Act, (puts a l).defers = a.defers := by
  induction l with
  | nil => intro a; rfl
  | cons x l ih => intro a; obtain ⟨d, v⟩ := x; show (puts (a.put (some d) v) l).defers = _; rw [ih, defers_put]
theorem puts_eval (b : Act) (l : List (Nat × Value)) (h : EvalsL b l) : ∀ (a : Act) (s : Nat), a.tmps.size = b.tmps.size → (a.eval (.tmp s) = b.eval (.tmp s) ∨ ∃ v, (s, v) ∈ l) → (puts a l).eval (.tmp s) = b.eval (.tmp s) := by
  induction h with
  | nil =>
    intro a s _ hs
    rcases hs with hs | ⟨v, hv⟩
    · exact hs
    · cases hv
  | @cons d v l h1 h2 ih =>
    intro a s hz hs
    show (puts (a.put (some d) v) l).eval (.tmp s) = _
    refine ih _ s (by rw [size_put, hz]) ?_
    by_cases e : s = d
    · subst e
      left
      by_cases hlt : s < a.tmps.size
      · rw [eval_put_same a s v hlt, h1]
      · have n1 : (a.put (some s) v).eval (.tmp s) = undef := by simp [Act.eval, Act.put, hlt]
        have n2 : b.eval (.tmp s) = undef := by simp [Act.eval, show ¬ s < b.tmps.size by omega]
        rw [n1, n2]
    · rcases hs with hs | ⟨u, hu⟩
      · left
        rw [eval_put_ne a (some d) s v (by intro e'; injection e' with e'; exact e e'.symm)]
        exact hs
      · rcases List.mem_cons.1 hu with e' | e'
        · injection e' with e1 e2; exact absurd e1 e
        · exact .inr ⟨u, e'⟩
theorem act_eq {a b : Act} (hs : a.tmps.size = b.tmps.size) (hd : a.defers = b.defers) (h : ∀ s : Nat, a.eval (.tmp s) = b.eval (.tmp s)) : a = b := by
  obtain ⟨ts, ds⟩ := a
  obtain ⟨us, es⟩ := b
  simp only at hs hd h
  subst hd
  congr 1
  apply Array.ext hs
  intro i h1 h2
  have := h i
  simp only [Act.eval, Array.getD_eq_getD_getElem?] at this
  rw [Array.getElem?_eq_getElem h1, Array.getElem?_eq_getElem h2] at this
  exact this
theorem frame_puts {ops : Array Oper} {m : Nat} {a a0 : Act} (l : List (Nat × Value)) (hs : a.tmps.size = a0.tmps.size) (hd : a.defers = a0.defers) (hk : ∀ s, writes ops m s = false → a.eval (.tmp s) = a0.eval (.tmp s)) (hkeys : keysB ops m l = true) (hv : EvalsL a l) : a = puts a0 l := by
  refine act_eq (by rw [puts_size, hs]) (by rw [puts_defers, hd]) (fun s => ?_)
  refine (puts_eval a l hv a0 s hs.symm ?_).symm
  cases hw : writes ops m s with
  | false => exact .inl (hk s hw).symm
  | true =>
    right
    unfold writes at hw
    obtain ⟨i, hi, hx⟩ := List.any_eq_true.1 hw
    unfold keysB at hkeys
    rw [List.all_eq_true] at hkeys
    have := hkeys i hi
    cases ho : ops[i]? with
    | none => simp [ho] at hx
    | some o =>
      simp only [ho, beq_iff_eq] at hx this
      simp only [hx, List.any_eq_true, beq_iff_eq] at this
      obtain ⟨⟨d, v⟩, hm, e⟩ := this
      simp only at e
      subst e
      exact ⟨v, hm⟩
end Go.AnyFacts
