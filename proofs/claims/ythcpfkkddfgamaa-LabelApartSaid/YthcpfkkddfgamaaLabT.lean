/- Hand-written walks and plain lemmas: what each Go function comes to (AnyF, ShaA, ShaB, ShaC, ShaD, ShaE, ShaF, ShaG, ShaH, ShaI, ShaP, ShaQ, ShaL, ShaR, ShaS, ShaO, ShaT, ShaU, KeyA, KeyB, KeyC, ShaV, ShaW, ShaX, ShaY, KeyD, KeyE, ShaZ, KeyG, AnyOps, KeyF, KeyH, AnyOps2, KeyJ). No condition. -/
import Derived.Test.YthcpfkkddfgamaaPF04Ax
import Derived.Test.YthcpfkkddfgamaaLF04A
import Derived.Orders
import Derived.Below
import Derived.Deep.MidRow
import Derived.Deep.RegionHeld3
import Derived.Deep.DrawnRows
import Derived.StillTailTactics
import Derived.BigRegion
import Derived.Laws.CopyOwn
import Derived.ChangeKeysEq
import Derived.Laws.StructEq
import Derived.Laws.MakeOwn
import Derived.Great.Walk
import Derived.Lib.FrozenHead2
import Derived.Laws.IdiomStrings
import Derived.Laws.Bits64
import Derived.Laws.BitsLemmas
namespace Go.AnyFacts
open Go Go.RowKit

def blk : Value → Option Nat
  | .slice (some a) _ _ => some a.block
  | .pointer (some a) => some a.block
  | _ => none
def depOn (ops : Array Oper) (i j : Nat) : Bool := match ops[i]? with
  | some o => o.after.any fun e => Region.binds .any e && e.on == j
  | none => false
def reach (ops : Array Oper) : Nat → Nat → Nat → Bool
  | 0, _, _ => false
  | k + 1, i, j => depOn ops i j || (List.range ops.size).any fun l => depOn ops i l && reach ops k l j
/-- Edges lead back; the last n - m operations come up behind the first m; no two of the first m write one slot. -/
def plainB (ops : Array Oper) (m : Nat) : Bool :=
  decide (m ≤ ops.size) &&
  (List.range ops.size).all (fun i => match ops[i]? with | some o => o.after.all (fun e => !Region.binds .any e || decide (e.on < i)) | none => true) &&
  (List.range ops.size).all (fun i => decide (i < m) || (List.range m).all fun j => reach ops 5 i j) &&
  (List.range m).all (fun i => (List.range i).all fun j => match ops[i]?, ops[j]? with
    | some x, some y => match x.dst, y.dst with | some d, some e => d != e | _, _ => true
    | _, _ => true)
def slotOf (ops : Array Oper) (a : Act) (i : Nat) : Value := match ops[i]? with
  | some o => match o.dst with | some d => a.eval (.tmp d) | none => undef
  | none => undef
def writes (ops : Array Oper) (m t : Nat) : Bool := (List.range m).any fun i => match ops[i]? with | some o => o.dst == some t | none => false

theorem eval_put_same (a : Act) (d : Nat) (v : Value) (h : d < a.tmps.size) : (a.put (some d) v).eval (.tmp d) = v := by
  simp [Act.eval, Act.put, h]
theorem eval_put_ne (a : Act) (dst : Option Tmp) (t : Nat) (v : Value) (h : dst ≠ some t) : (a.put dst v).eval (.tmp t) = a.eval (.tmp t) :=
  Act.eval_put fun d hd e => by injection e with e; subst e; exact h hd
theorem size_put (a : Act) (dst : Option Tmp) (v : Value) : (a.put dst v).tmps.size = a.tmps.size := by
  cases dst <;> simp [Act.put]
theorem defers_put (a : Act) (dst : Option Tmp) (v : Value) : (a.put dst v).defers = a.defers := by cases dst <;> rfl

theorem count_set : ∀ (l : List Bool) (i : Nat), l[i]? = some false → (l.set i true).count false + 1 = l.count false := by
  intro l
  induction l with
  | nil => intro i h; simp at h
  | cons b l ih =>
    intro i h
    cases i with
    | zero => simp at h; subst h; simp
    | succ i => simp at h; simp only [List.set_cons_succ, List.count_cons]; have := ih i h; omega
theorem count_pos : ∀ (l : List Bool) (i : Nat), l[i]? = some false → 0 < l.count false := by
  intro l i h
  have := count_set l i h
  omega

section
variable {P : Program} {ops : Array Oper} {Q : Exit → Act → World → Prop}
variable (ops) (m : Nat) (N : Nat) (t : Nat → Value → World → Prop) (fresh : Nat → Bool) (a0 : Act) (w0 : World)

/-- What holds of a frame and a world between: of those that did. -/
structure Held (did : Nat → Prop) (a : Act) (w : World) : Prop where
  size : a.tmps.size = N
  defers : a.defers = a0.defers
  kept : ∀ s, writes ops m s = false → a.eval (.tmp s) = a0.eval (.tmp s)
  below : Below w0.heap.size w0 w
  fact : ∀ i, i < m → did i → t i (slotOf ops a i) w
  new : ∀ i, i < m → did i → fresh i = true → ∃ g, blk (slotOf ops a i) = some g ∧ w0.heap.size ≤ g ∧ g < w.heap.size
  apart : ∀ i j, i < m → j < m → i ≠ j → did i → did j → fresh i = true → fresh j = true → blk (slotOf ops a i) ≠ blk (slotOf ops a j)

/-- What an operation has to bring about. -/
def Step (P : Program) (Q : Exit → Act → World → Prop) (i : Nat) (o : Oper) (a : Act) (w : World) : Prop :=
  if Region.wanted o (yielded ops a.tmps) = true then o.wp P a w (fun a' w' => ∃ v, a' = a.put o.dst v ∧ Below w.heap.size w w' ∧ t i v w' ∧ (fresh i = true → ∃ g, blk v = some g ∧ w.heap.size ≤ g ∧ g < w'.heap.size)) Q
  else t i undef w ∧ fresh i = false

theorem Held.step {did : Nat → Prop} {a : Act} {w : World} (h : Held ops m N t fresh a0 w0 did a w) (hst : ∀ i v w w', t i v w → Below w.heap.size w w' → t i v w')
    (hd : ∀ i j x y d, i < m → j < m → i ≠ j → ops[i]? = some x → ops[j]? = some y → x.dst = some d → y.dst ≠ some d)
    {i : Nat} {o : Oper} (hi : i < m) (ho : ops[i]? = some o) (hdst : ∃ d, o.dst = some d ∧ d < N) {v : Value} {w' : World} (hb : Below w.heap.size w w') (hv : t i v w') (hf : fresh i = true → ∃ g, blk v = some g ∧ w.heap.size ≤ g ∧ g < w'.heap.size) (hnd : ¬ did i) :
    Held ops m N t fresh a0 w0 (fun k => did k ∨ k = i) (a.put o.dst v) w' := by
  obtain ⟨d, hd1, hd2⟩ := hdst
  have hsame : slotOf ops (a.put o.dst v) i = v := by
    unfold slotOf
    simp only [ho, hd1]
    exact eval_put_same a d v (by rw [h.size]; exact hd2)
  have hother : ∀ k, k < m → k ≠ i → slotOf ops (a.put o.dst v) k = slotOf ops a k := by
    intro k hk hne
    unfold slotOf
    cases hok : ops[k]? with
    | none => rfl
    | some ok =>
      cases hdk : ok.dst with
      | none => simp only [hdk]
      | some e => simp only [hdk]; exact eval_put_ne a o.dst e v (by rw [hd1]; intro h'; injection h' with h'; subst h'; exact hd k i ok o d hk hi hne hok ho hdk hd1)
  refine ⟨by rw [size_put, h.size], by rw [defers_put, h.defers], fun s hs => ?_, ⟨hb.os.trans h.below.os, hb.tape.trans h.below.tape, hb.output.trans h.below.output, Nat.le_trans h.below.size hb.size, fun k hk => (hb.block k (Nat.lt_of_lt_of_le hk h.below.size)).trans (h.below.block k hk)⟩, fun k hk hdid => ?_, fun k hk hdid hfk => ?_, fun k j hk hj hne hdk hdj hfk hfj => ?_⟩
  · rw [eval_put_ne a o.dst s v ?_]
    · exact h.kept s hs
    · intro e
      unfold writes at hs
      rw [List.any_eq_false] at hs
      have := hs i (by rw [List.mem_range]; exact hi)
      simp [ho, e] at this
  · by_cases hki : k = i
    · subst hki; rw [hsame]; exact hv
    · rw [hother k hk hki]
      exact hst _ _ _ _ (h.fact k hk (hdid.resolve_right hki)) hb
  · by_cases hki : k = i
    · subst hki
      rw [hsame]
      obtain ⟨g, h1, h2, h3⟩ := hf hfk
      exact ⟨g, h1, Nat.le_trans h.below.size h2, h3⟩
    · rw [hother k hk hki]
      obtain ⟨g, h1, h2, h3⟩ := h.new k hk (hdid.resolve_right hki) hfk
      exact ⟨g, h1, h2, Nat.lt_of_lt_of_le h3 hb.size⟩
  · by_cases hki : k = i
    · subst hki
      rw [hsame, hother j hj (Ne.symm hne)]
      obtain ⟨g, h1, h2, h3⟩ := hf hfk
      obtain ⟨g', h1', h2', h3'⟩ := h.new j hj (hdj.resolve_right (Ne.symm hne)) hfj
      rw [h1, h1']
      intro e
      injection e with e
      omega
    · by_cases hji : j = i
      · subst hji
        rw [hsame, hother k hk hki]
        obtain ⟨g, h1, h2, h3⟩ := hf hfj
        obtain ⟨g', h1', h2', h3'⟩ := h.new k hk (hdk.resolve_right hki) hfk
        rw [h1, h1']
        intro e
        injection e with e
        omega
      · rw [hother k hk hki, hother j hj hji]
        exact h.apart k j hk hj hne (hdk.resolve_right hki) (hdj.resolve_right hji) hfk hfj

variable {ops m N t fresh a0 w0}

theorem plain_back (h : plainB ops m = true) {i : Nat} {o : Oper} (ho : ops[i]? = some o) : ∀ e ∈ o.after, Region.binds .any e = true → e.on < i := by
  unfold plainB at h
  simp only [Bool.and_eq_true, List.all_eq_true, List.mem_range] at h
  have := h.1.1.2 i (Array.getElem?_eq_some_iff.1 ho).1
  simp only [ho, Array.all_eq_true_iff_forall_mem, Bool.or_eq_true, Bool.not_eq_true', decide_eq_true_eq] at this
  intro e he hb
  rcases this e he with h1 | h1
  · rw [hb] at h1; cases h1
  · exact h1
theorem plain_le (h : plainB ops m = true) : m ≤ ops.size := by
  unfold plainB at h
  simp only [Bool.and_eq_true, decide_eq_true_eq] at h
  exact h.1.1.1
theorem plain_dst (h : plainB ops m = true) : ∀ i j x y d, i < m → j < m → i ≠ j → ops[i]? = some x → ops[j]? = some y → x.dst = some d → y.dst ≠ some d := by
  unfold plainB at h
  simp only [Bool.and_eq_true, List.all_eq_true, List.mem_range] at h
  intro i j x y d hi hj hne hx hy hd he
  rcases Nat.lt_or_ge j i with hlt | hge
  · have := h.2 i hi j hlt
    simp [hx, hy, hd, he] at this
  · have := h.2 j hj i (by omega)
    simp [hx, hy, hd, he] at this
theorem depOn_closed {listed : Array Bool} (hc : ∀ i o, ops[i]? = some o → listed.getD i false = true → ∀ e ∈ o.after, Region.binds .any e = true → listed.getD e.on false = true) {i j : Nat} (hi : listed.getD i false = true) (hd : depOn ops i j = true) : listed.getD j false = true := by
  unfold depOn at hd
  cases ho : ops[i]? with
  | none => simp [ho] at hd
  | some o =>
    simp only [ho] at hd
    obtain ⟨e, he, hb⟩ := Array.any_eq_true'.1 hd
    simp only [Bool.and_eq_true, beq_iff_eq] at hb
    rw [← hb.2]
    exact hc i o ho hi e he hb.1
theorem reach_closed {listed : Array Bool} (hc : ∀ i o, ops[i]? = some o → listed.getD i false = true → ∀ e ∈ o.after, Region.binds .any e = true → listed.getD e.on false = true) : ∀ (k i j : Nat), listed.getD i false = true → reach ops k i j = true → listed.getD j false = true := by
  intro k
  induction k with
  | zero => intro i j _ h; simp [reach] at h
  | succ k ih =>
    intro i j hi h
    simp only [reach, Bool.or_eq_true, List.any_eq_true, Bool.and_eq_true] at h
    rcases h with h | ⟨l, _, h1, h2⟩
    · exact depOn_closed hc hi h
    · exact ih l j (depOn_closed hc hi h1) h2
theorem reach_ready {listed : Array Bool} (hc : ∀ i o, ops[i]? = some o → listed.getD i false = true → ∀ e ∈ o.after, Region.binds .any e = true → listed.getD e.on false = true) {i : Nat} (hr : i ∈ Region.ready .any ops listed) : ∀ (k j : Nat), reach ops k i j = true → listed.getD j false = true := by
  intro k j h
  obtain ⟨_, o, ho, hall⟩ := mem_ready.1 hr
  have hdep : ∀ j, depOn ops i j = true → listed.getD j false = true := by
    intro j hd
    unfold depOn at hd
    simp only [ho] at hd
    obtain ⟨e, he, hb⟩ := Array.any_eq_true'.1 hd
    simp only [Bool.and_eq_true, beq_iff_eq] at hb
    rw [← hb.2]
    exact hall e he hb.1
  cases k with
  | zero => simp [reach] at h
  | succ k =>
    simp only [reach, Bool.or_eq_true, List.any_eq_true, Bool.and_eq_true] at h
    rcases h with h | ⟨l, _, h1, h2⟩
    · exact hdep j h
    · exact reach_closed hc k l j (hdep l h1) h2

theorem getD_flip {listed : Array Bool} {i : Nat} (h : i < listed.size) : listed.getD i true = listed.getD i false := by simp [h]

theorem wpAny_facts (hp : plainB ops m = true) (hst : ∀ i v w w', t i v w → Below w.heap.size w w' → t i v w')
    (hdst : ∀ i o, i < m → ops[i]? = some o → ∃ d, o.dst = some d ∧ d < N)
    (hop : ∀ i o, i < m → ops[i]? = some o → ∀ did a w, Held ops m N t fresh a0 w0 did a w → (∀ j, depOn ops i j = true → did j) → Step ops t fresh P Q i o a w)
    (hfin : ∀ a w, Held ops m N t fresh a0 w0 (fun _ => True) a w → wpAny P .any ops Q (ops.size - m) (Array.replicate m true ++ Array.replicate (ops.size - m) false) a w) :
    ∀ (fuel : Nat) (listed : Array Bool) (a : Act) (w : World), listed.size = ops.size → listed.toList.count false = fuel →
      (∀ i o, ops[i]? = some o → listed.getD i false = true → ∀ e ∈ o.after, Region.binds .any e = true → listed.getD e.on false = true) →
      (∀ i, m ≤ i → listed.getD i false = false) → Held ops m N t fresh a0 w0 (fun i => listed.getD i false = true) a w → wpAny P .any ops Q fuel listed a w := by
  intro fuel
  have hm := plain_le hp
  have prefixed : ∀ (listed : Array Bool) (a : Act) (w : World) (fuel : Nat), listed.size = ops.size → listed.toList.count false = fuel → (∀ i, m ≤ i → listed.getD i false = false) → Held ops m N t fresh a0 w0 (fun i => listed.getD i false = true) a w → (∀ i, i < m → listed.getD i false = true) → wpAny P .any ops Q fuel listed a w := by
    intro listed a w fuel hsz hct hbe hH hall
    have e : listed = Array.replicate m true ++ Array.replicate (ops.size - m) false := by
      apply Array.ext_getElem?
      intro i
      rcases Nat.lt_or_ge i listed.size with hi | hi
      · rcases Nat.lt_or_ge i m with him | him
        · have := hall i him
          rw [Array.getElem?_append_left (by simpa using him)]
          simp only [Array.getD_eq_getD_getElem?, hi, Array.getElem?_eq_getElem, Option.getD_some] at this
          simp [hi, him, this]
        · have := hbe i him
          rw [Array.getElem?_append_right (by simpa using him)]
          simp only [Array.getD_eq_getD_getElem?, hi, Array.getElem?_eq_getElem, Option.getD_some] at this
          rw [Array.getElem?_eq_getElem hi, this, Array.size_replicate, Array.getElem?_eq_getElem (by simp; omega)]
          simp
      · rw [Array.getElem?_eq_none hi, Array.getElem?_eq_none (by simp; omega)]
    have hf : fuel = ops.size - m := by
      rw [← hct, e]
      simp [List.count_replicate]
    rw [hf, e]
    refine hfin a w ⟨hH.size, hH.defers, hH.kept, hH.below, fun i hi _ => hH.fact i hi (hall i hi), fun i hi _ => hH.new i hi (hall i hi), fun i j hi hj hne _ _ => hH.apart i j hi hj hne (hall i hi) (hall j hj)⟩
  induction fuel with
  | zero =>
    intro listed a w hsz hct hcl hbe hH
    refine prefixed listed a w 0 hsz hct hbe hH fun i hi => ?_
    have hil : i < listed.size := by omega
    cases hb : listed[i] with
    | true => simp [hil, hb]
    | false =>
      have := count_pos listed.toList i (by simp [hil, hb])
      omega
  | succ fuel ih =>
    intro listed a w hsz hct hcl hbe hH
    by_cases hall : ∀ i, i < m → listed.getD i false = true
    · exact prefixed listed a w (fuel + 1) hsz hct hbe hH hall
    · have hex : ∃ i, i < m ∧ listed.getD i false = false := by
        apply Classical.byContradiction
        intro hn
        apply hall
        intro i hi
        cases hb : listed.getD i false with
        | true => rfl
        | false => exact absurd ⟨i, hi, hb⟩ hn
      -- the least of those that did not
      have hleast : ∃ i, i < m ∧ listed.getD i false = false ∧ ∀ j, j < i → listed.getD j false = true := by
        obtain ⟨i, hi, hb⟩ := hex
        induction i using Nat.strongRecOn with
        | ind i ihi =>
          by_cases hj : ∃ j, j < i ∧ listed.getD j false = false
          · obtain ⟨j, hji, hjb⟩ := hj
            exact ihi j hji (by omega) hjb
          · refine ⟨i, hi, hb, fun j hji => ?_⟩
            cases hbj : listed.getD j false with
            | true => rfl
            | false => exact absurd ⟨j, hji, hbj⟩ hj
      have hne : Region.ready .any ops listed ≠ [] := by
        obtain ⟨i, hi, hb, hlow⟩ := hleast
        have hlt : i < ops.size := by omega
        have hmem : i ∈ Region.ready .any ops listed := by
          rw [mem_ready]
          refine ⟨by rw [getD_flip (by omega)]; exact hb, ops[i], by simp [hlt], fun e he hbnd => hlow _ (plain_back hp (i := i) (o := ops[i]) (by simp [hlt]) e he hbnd)⟩
        intro h0
        rw [h0] at hmem
        cases hmem
      refine ⟨fun h0 => absurd h0 hne, fun i hir => ?_⟩
      obtain ⟨hun, o, ho, hall2⟩ := mem_ready.1 hir
      have hlt : i < ops.size := (Array.getElem?_eq_some_iff.1 ho).1
      have hunf : listed.getD i false = false := by rw [← getD_flip (by omega)]; exact hun
      have him : i < m := by
        apply Classical.byContradiction
        intro hge
        apply hall
        intro j hj
        have hcov : reach ops 5 i j = true := by
          have hp' := hp
          unfold plainB at hp'
          simp only [Bool.and_eq_true, List.all_eq_true, List.mem_range, Bool.or_eq_true, decide_eq_true_eq] at hp'
          rcases hp'.1.2 i hlt with h1 | h1
          · exact absurd h1 hge
          · exact h1 j hj
        exact reach_ready hcl hir 5 j hcov
      have hdep : ∀ j, depOn ops i j = true → listed.getD j false = true := by
        intro j hd
        unfold depOn at hd
        simp only [ho] at hd
        obtain ⟨e, he, hb⟩ := Array.any_eq_true'.1 hd
        simp only [Bool.and_eq_true, beq_iff_eq] at hb
        rw [← hb.2]
        exact hall2 e he hb.1
      have hs := hop i o him ho (fun i => listed.getD i false = true) a w hH hdep
      have next : ∀ v w', Below w.heap.size w w' → t i v w' → (fresh i = true → ∃ g, blk v = some g ∧ w.heap.size ≤ g ∧ g < w'.heap.size) → wpAny P .any ops Q fuel (listed.setIfInBounds i true) (a.put o.dst v) w' := by
        intro v w' hb hv hf
        have hH' := hH.step ops m N t fresh a0 w0 hst (plain_dst hp) him ho (hdst i o him ho) hb hv hf (by simp [hunf])
        have hset : ∀ k, (listed.setIfInBounds i true).getD k false = true → (listed.getD k false = true ∨ k = i) := by
          intro k hk
          by_cases hki : k = i
          · exact .inr hki
          · rw [getD_set_ne false (Ne.symm hki)] at hk
            exact .inl hk
        refine ih _ _ _ (by simpa using hsz) ?_ ?_ ?_ ⟨hH'.size, hH'.defers, hH'.kept, hH'.below, fun k hk hd => hH'.fact k hk (hset k hd), fun k hk hd => hH'.new k hk (hset k hd), fun k j hk hj hne hdk hdj => hH'.apart k j hk hj hne (hset k hdk) (hset j hdj)⟩
        · have := count_set listed.toList i (by
            have hil : i < listed.size := by omega
            simp only [Array.getD_eq_getD_getElem?, hil, Array.getElem?_eq_getElem, Option.getD_some] at hunf
            simp [hil, hunf])
          rw [Array.toList_setIfInBounds]
          omega
        · intro k ok hok hk e he hbnd
          by_cases hki : k = i
          · subst hki
            rw [ho] at hok
            injection hok with hok
            subst hok
            exact getD_set_true (hall2 e he hbnd)
          · rw [getD_set_ne false (Ne.symm hki)] at hk
            exact getD_set_true (hcl k ok hok hk e he hbnd)
        · intro k hk
          rw [getD_set_ne false (by omega)]
          exact hbe k hk
      unfold Step at hs
      unfold wpOp
      simp only [ho]
      by_cases hw : Region.wanted o (yielded ops a.tmps) = true
      · rw [if_pos hw] at hs
        rw [if_pos hw]
        refine .inl (Oper.wp_mono ?_ hs)
        rintro a' w' ⟨v, rfl, hb, hv, hf⟩
        exact next v w' hb hv hf
      · rw [if_neg hw] at hs
        rw [if_neg hw]
        exact next undef w (Below.refl _ _) hs.1 (fun h => by rw [hs.2] at h; cases h)

/-- A region that draws its order, told by what each operation yields. -/
theorem region_facts {id : Nat} {a : Act} {w : World} (hm : P.follows .mixedOrders = true) (t : Nat → Value → World → Prop) (fresh : Nat → Bool) (m : Nat)
    (hp : plainB ops m = true) (hst : ∀ i v w w', t i v w → Below w.heap.size w w' → t i v w')
    (hdst : ∀ i o, i < m → ops[i]? = some o → ∃ d, o.dst = some d ∧ d < a.tmps.size)
    (hop : ∀ i o, i < m → ops[i]? = some o → ∀ did a' w', Held ops m a.tmps.size t fresh a w.drew did a' w' → (∀ j, depOn ops i j = true → did j) → Step ops t fresh P Q i o a' w')
    (hfin : ∀ a' w', Held ops m a.tmps.size t fresh a w.drew (fun _ => True) a' w' → wpAny P .any ops Q (ops.size - m) (Array.replicate m true ++ Array.replicate (ops.size - m) false) a' w') :
    (Code.region id ops true).wp P Q a w := by
  refine wp_region_any hm ?_
  refine wpAny_facts (N := a.tmps.size) (a0 := a) (w0 := w.drew) hp hst hdst hop hfin ops.size _ a w.drew (by simp) (by simp) ?_ ?_ ?_
  · intro i o ho hi
    have hlt := (Array.getElem?_eq_some_iff.1 ho).1
    simp [hlt] at hi
  · intro i _
    by_cases hi : i < ops.size <;> simp [hi]
  · refine ⟨rfl, rfl, fun s _ => rfl, Below.refl _ _, fun i hi hd => ?_, fun i hi hd => ?_, fun i j hi hj hne hd => ?_⟩ <;>
    · have hlt : i < ops.size := Nat.lt_of_lt_of_le hi (plain_le hp)
      simp [hlt] at hd
end
end Go.AnyFacts

namespace Go.Proofs.Ythcpfkkddfgamaa.Sha
open Go.RowKit Go.Proofs.YthcpfkkddfgamaaW.Hand Go.Proofs.YthcpfkkddfgamaaW.PrintWords Go.Proofs.YthcpfkkddfgamaaW.PrintLast Go.Proofs.YthcpfkkddfgamaaW.PrintMore Go.Proofs.Ythcpfkkddfgamaa.PF04A
set_option linter.unusedVariables false
set_option linter.unusedSimpArgs false
/-! ### arrays as lists of numbers -/
def arr (k : IntKind) (xs : List Int) : Array Value := (xs.map (Value.int k)).toArray
theorem arr_size (k : IntKind) (xs : List Int) : (arr k xs).size = xs.length := by simp [arr]
theorem arr_get (k : IntKind) (xs : List Int) (i : Nat) (h : i < xs.length) : (arr k xs)[i]? = some (.int k (rd xs i)) := by
  unfold arr rd
  simp [h, List.getD_eq_getElem?_getD]
/-- w' is w but for what block g holds. -/
structure Upd (w w' : World) (g : Nat) : Prop where
  os : w'.os = w.os
  tape : w'.tape = w.tape
  output : w'.output = w.output
  size : w'.heap.size = w.heap.size
  block : ∀ k, k ≠ g → w'.heap[k]? = w.heap[k]?
theorem Upd.below {w w' w0 : World} {g B : Nat} (h : Upd w w' g) (hb : Below B w0 w) (hg : B ≤ g) : Below B w0 w' :=
  hb.trans ⟨h.os, h.tape, h.output, by rw [h.size]; exact Nat.le_refl _, fun k hk => h.block k (by omega)⟩
section
variable {P : Program} {ops : Array Oper} {rest : List Oper} {o : Oper} {a : Act} {W : World} {Q : Exit → Act → World → Prop}
theorem L_store (hgd : o.guard = none) (hd : o.dst = none) (ty : TypeId) (x y : Operand) (ho : o.op = .store ty x y) (g : Nat) (cells : Array Value) (hx : a.eval x = .pointer (some ⟨g, 0, none⟩)) (hy : a.eval y = .agg cells)
    (old : Array Value) (t : TypeId) (hg : W.heap[g]? = some (.cells old t (0, 0))) (hs : old.size = cells.size) (hi : (P.info? ty).map (·.size) = some cells.size) (h1 : cells.all (·.oneCell') = true)
    (h : ∀ w', w'.heap[g]? = some (.cells cells t (0, 0)) → Upd W w' g → wpList P ops Q rest a w') : wpList P ops Q (o :: rest) a W := by
  refine wpList_plain hgd fun K hK => wp_store_row ty x y ho g cells hx hy t old hg hi hs h1 (hK _ _ ?_)
  rw [hd]
  exact h _ (setRow_heap W g old cells t (0, 0) hg) ⟨rfl, rfl, rfl, setRow_size W g cells, fun k hk => setRow_other W g k cells hk⟩
theorem L_load (hgd : o.guard = none) (ty : TypeId) (x : Operand) (ho : o.op = .load ty x) (g : Nat) (hx : a.eval x = .pointer (some ⟨g, 0, none⟩)) (t : TypeId) (cells : Array Value) (d : TypeDesc)
    (hg : W.heap[g]? = some (.cells cells t (0, 0))) (hu : P.underlying ty = some d) (hd : (match d with | .struct _ | .array _ _ => true | _ => false) = true) (hi : (P.info? ty).map (·.size) = some cells.size)
    (h : wpList P ops Q rest (a.put o.dst (.agg cells)) W) : wpList P ops Q (o :: rest) a W :=
  wpList_plain hgd fun K hK => wp_load_row ty x ho g hx t cells (0, 0) d hg hu hd hi (hK _ _ h)
theorem L_alloc (hgd : o.guard = none) (ty : TypeId) (ho : o.op = .alloc ty) (v : Value) (n : Nat) (hinfo : (P.info? ty).map (fun i => (i.zero, i.size)) = some (some v, n))
    (h : ∀ g w1, w1.heap[g]? = some (.cells v.cells ty (0, 0)) → W.heap.size = g → w1.heap.size = g + 1 → Below W.heap.size W w1 → wpList P ops Q rest (a.put o.dst (.pointer (some ⟨g, 0, none⟩))) w1) : wpList P ops Q (o :: rest) a W := by
  cases hq : P.info? ty with
  | none => simp [hq] at hinfo
  | some i =>
    simp [hq] at hinfo
    refine Kd.event_run hgd (v := .pointer (some ⟨W.heap.size, 0, none⟩)) (w1 := W.alloc (.cells v.cells ty)) ?_ (h _ _ (heap_alloc_new W _) rfl (by show (W.heap.push _).size = _; simp) ((Below.refl _ _).alloc (Nat.le_refl _) _))
    simp [execOp, ho, Instr.alloc, zeroValue, typeInfo, hq, hinfo.1, newVar, newRow, newObj]
    rfl
end
/-! ### the plain functions -/
theorem C_cells {k : IntKind} {w : World} {A : Option Addr} {xs : List Int} (h : Kd.C (Kd.int k) w A xs.length xs) (hp : 0 < xs.length) : ∃ ad, A = some ad ∧ ∀ (j : Nat) (v : Value), (xs.map (Value.int k))[j]? = some v → w.cell? (ad.add j) = some v := by
  obtain ⟨ad, e, hc⟩ := h.2.2 hp
  refine ⟨ad, e, fun j v hv => ?_⟩
  have hj : j < xs.length := by have := (List.getElem?_eq_some_iff.1 hv).1; simpa using this
  obtain ⟨cs, h1, h2, h3⟩ := hc j xs[j] (List.getElem?_eq_getElem hj)
  have e2 : cs = [.int k xs[j]] := h2
  subst e2
  have := h3 0 (.int k xs[j]) rfl
  have hv' : Value.int k xs[j] = v := by simpa [hj] using hv
  rw [← hv']
  rwa [Nat.add_zero, show (Kd.int k).sz = 1 from rfl, Nat.mul_one] at this
end Go.Proofs.Ythcpfkkddfgamaa.Sha

namespace Go.Proofs.Ythcpfkkddfgamaa.Sha
open Go.RowKit Go.Proofs.YthcpfkkddfgamaaW.Hand Go.Proofs.YthcpfkkddfgamaaW.PrintWords Go.Proofs.YthcpfkkddfgamaaW.PrintLast Go.Proofs.YthcpfkkddfgamaaW.PrintMore Go.Proofs.Ythcpfkkddfgamaa.PF04A
set_option linter.unusedVariables false
set_option linter.unusedSimpArgs false
section
variable {P : Program} {ops : Array Oper} {rest : List Oper} {o : Oper} {a : Act} {W : World} {Q : Act → Prop}
end
section
variable {P : Program} {ops : Array Oper} {rest : List Oper} {o : Oper} {a : Act} {W : World} {Q : Exit → Act → World → Prop}
theorem L_box (hgd : o.guard = none) (ty : TypeId) (x : Operand) (ho : o.op = .box ty x) (v : Value) (hx : a.eval x = v)
    (h : ∀ g w1, w1.heap[g]? = some (.cells v.cells ty (0, 0)) → W.heap.size = g → w1.heap.size = g + 1 → Below W.heap.size W w1 → wpList P ops Q rest (a.put o.dst (.pointer (some ⟨g, 0, none⟩))) w1) : wpList P ops Q (o :: rest) a W := by
  refine Kd.event_run hgd (v := .pointer (some ⟨W.heap.size, 0, none⟩)) (w1 := W.alloc (.cells v.cells ty)) ?_ (h _ _ (heap_alloc_new W _) rfl (by show (W.heap.push _).size = _; simp) ((Below.refl _ _).alloc (Nat.le_refl _) _))
  simp [execOp, ho, hx, Instr.box, newVar, newRow, newObj]
  rfl
end
end Go.Proofs.Ythcpfkkddfgamaa.Sha

namespace Go.Proofs.Ythcpfkkddfgamaa.Sha
open Go.RowKit Go.Proofs.YthcpfkkddfgamaaW.Hand Go.Proofs.YthcpfkkddfgamaaW.PrintWords Go.Proofs.YthcpfkkddfgamaaW.PrintLast Go.Proofs.YthcpfkkddfgamaaW.PrintMore Go.Proofs.Ythcpfkkddfgamaa.PF04A
set_option linter.unusedVariables false
set_option linter.unusedSimpArgs false

end Go.Proofs.Ythcpfkkddfgamaa.Sha

namespace Go.Proofs.Ythcpfkkddfgamaa.Sha
open Go.RowKit Go.Proofs.YthcpfkkddfgamaaW.Hand Go.Proofs.YthcpfkkddfgamaaW.PrintWords Go.Proofs.YthcpfkkddfgamaaW.PrintLast Go.Proofs.YthcpfkkddfgamaaW.PrintMore Go.Proofs.Ythcpfkkddfgamaa.PF04A Go.Proofs.Ythcpfkkddfgamaa.Base Go.Proofs.Ythcpfkkddfgamaa.LF04A
set_option linter.unusedVariables false
set_option linter.unusedSimpArgs false

theorem C_cells0 {k : IntKind} {w : World} {A : Option Addr} {xs : List Int} (h : Kd.C (Kd.int k) w A xs.length xs) (hp : 0 < xs.length) : ∃ ad, A = some ad ∧ ∀ (j : Nat) (v : Value), (nums k xs)[j]? = some v → w.cell? (ad.add j) = some v := C_cells h hp
end Go.Proofs.Ythcpfkkddfgamaa.Sha

namespace Go.Proofs.Ythcpfkkddfgamaa.Sha
open Go.RowKit Go.Proofs.YthcpfkkddfgamaaW.Hand Go.Proofs.YthcpfkkddfgamaaW.PrintWords Go.Proofs.YthcpfkkddfgamaaW.PrintLast Go.Proofs.YthcpfkkddfgamaaW.PrintMore Go.Proofs.Ythcpfkkddfgamaa.PF04A Go.Proofs.Ythcpfkkddfgamaa.Base Go.Proofs.Ythcpfkkddfgamaa.LF04A
set_option linter.unusedVariables false
set_option linter.unusedSimpArgs false
section
variable {P : Program} {ops : Array Oper} {rest : List Oper} {o : Oper} {a : Act} {W : World} {Q : Exit → Act → World → Prop}
end
end Go.Proofs.Ythcpfkkddfgamaa.Sha

namespace Go.Proofs.Ythcpfkkddfgamaa.Sha
open Go.RowKit Go.Proofs.YthcpfkkddfgamaaW.Hand Go.Proofs.YthcpfkkddfgamaaW.PrintWords Go.Proofs.YthcpfkkddfgamaaW.PrintLast Go.Proofs.YthcpfkkddfgamaaW.PrintMore Go.Proofs.Ythcpfkkddfgamaa.PF04A Go.Proofs.Ythcpfkkddfgamaa.Base Go.Proofs.Ythcpfkkddfgamaa.LF04A
set_option linter.unusedVariables false
set_option linter.unusedSimpArgs false

theorem Upd.refl (w : World) (g : Nat) : Upd w w g := ⟨rfl, rfl, rfl, rfl, fun _ _ => rfl⟩
end Go.Proofs.Ythcpfkkddfgamaa.Sha

namespace Go.Proofs.Ythcpfkkddfgamaa.Sha
open Go.RowKit Go.Proofs.YthcpfkkddfgamaaW.Hand Go.Proofs.YthcpfkkddfgamaaW.PrintWords Go.Proofs.YthcpfkkddfgamaaW.PrintLast Go.Proofs.YthcpfkkddfgamaaW.PrintMore Go.Proofs.Ythcpfkkddfgamaa.PF04A Go.Proofs.Ythcpfkkddfgamaa.Base Go.Proofs.Ythcpfkkddfgamaa.LF04A
set_option linter.unusedVariables false
set_option linter.unusedSimpArgs false
end Go.Proofs.Ythcpfkkddfgamaa.Sha

namespace Go.Proofs.Ythcpfkkddfgamaa.Sha
open Go.RowKit Go.Proofs.YthcpfkkddfgamaaW.Hand Go.Proofs.YthcpfkkddfgamaaW.PrintWords Go.Proofs.YthcpfkkddfgamaaW.PrintLast Go.Proofs.YthcpfkkddfgamaaW.PrintMore Go.Proofs.Ythcpfkkddfgamaa.PF04A Go.Proofs.Ythcpfkkddfgamaa.Base Go.Proofs.Ythcpfkkddfgamaa.LF04A
set_option linter.unusedVariables false
set_option linter.unusedSimpArgs false
end Go.Proofs.Ythcpfkkddfgamaa.Sha

namespace Go.Proofs.Ythcpfkkddfgamaa.Sha
open Go.RowKit Go.Proofs.YthcpfkkddfgamaaW.Hand Go.Proofs.YthcpfkkddfgamaaW.PrintWords Go.Proofs.YthcpfkkddfgamaaW.PrintLast Go.Proofs.YthcpfkkddfgamaaW.PrintMore Go.Proofs.Ythcpfkkddfgamaa.PF04A Go.Proofs.Ythcpfkkddfgamaa.Base Go.Proofs.Ythcpfkkddfgamaa.LF04A
set_option linter.unusedVariables false
set_option linter.unusedSimpArgs false

/-! ### what stands behind a text -/
/-! ### a text eaten in two pieces -/
end Go.Proofs.Ythcpfkkddfgamaa.Sha

namespace Go.Proofs.Ythcpfkkddfgamaa.Sha
open Go.RowKit Go.Proofs.YthcpfkkddfgamaaW.Hand Go.Proofs.YthcpfkkddfgamaaW.PrintWords Go.Proofs.YthcpfkkddfgamaaW.PrintLast Go.Proofs.YthcpfkkddfgamaaW.PrintMore Go.Proofs.Ythcpfkkddfgamaa.PF04A Go.Proofs.Ythcpfkkddfgamaa.Base Go.Proofs.Ythcpfkkddfgamaa.LF04A
set_option linter.unusedVariables false
set_option linter.unusedSimpArgs false

/-! ### the reference agrees -/
end Go.Proofs.Ythcpfkkddfgamaa.Sha

namespace Go.Proofs.Ythcpfkkddfgamaa.Sha
open Go.RowKit Go.Proofs.YthcpfkkddfgamaaW.Hand Go.Proofs.YthcpfkkddfgamaaW.PrintWords Go.Proofs.YthcpfkkddfgamaaW.PrintLast Go.Proofs.YthcpfkkddfgamaaW.PrintMore Go.Proofs.Ythcpfkkddfgamaa.PF04A Go.Proofs.Ythcpfkkddfgamaa.Base Go.Proofs.Ythcpfkkddfgamaa.LF04A
set_option linter.unusedVariables false
set_option linter.unusedSimpArgs false

end Go.Proofs.Ythcpfkkddfgamaa.Sha

namespace Go.Proofs.Ythcpfkkddfgamaa.Sha
open Go.RowKit Go.Proofs.YthcpfkkddfgamaaW.Hand Go.Proofs.YthcpfkkddfgamaaW.PrintWords Go.Proofs.YthcpfkkddfgamaaW.PrintLast Go.Proofs.YthcpfkkddfgamaaW.PrintMore Go.Proofs.Ythcpfkkddfgamaa.PF04A Go.Proofs.Ythcpfkkddfgamaa.Base Go.Proofs.Ythcpfkkddfgamaa.LF04A
set_option linter.unusedVariables false
set_option linter.unusedSimpArgs false

theorem all_rd (xs ys : List Int) : ∀ (n : Nat), xs.length = n → ys.length = n → (List.range' 0 n 1).all (fun i => rd xs (i : Nat) == rd ys (i : Nat)) = decide (xs = ys) := by
  intro n hx hy
  rw [Bool.eq_iff_iff, List.all_eq_true, decide_eq_true_iff]
  constructor
  · intro h
    refine List.ext_getElem (by omega) (fun i h1 h2 => ?_)
    have := h i (by rw [List.mem_range'_1]; omega)
    rw [rd_lt h1, rd_lt h2] at this
    simpa using this
  · rintro rfl i _
    simp
/-- '==' of two arrays of whole numbers. -/
theorem run_equalIn_arr {P : Program} (w : World) (d : Nat) (t e : TypeId) (n : Nat) (k : IntKind) (ht : P.underlying t = some (.array n e)) (he : P.underlying e = some (.int k)) (hsz : (P.info? e).map (·.size) = some 1)
    (xs ys : List Int) (hx : xs.length = n) (hy : ys.length = n) : (Op.equalIn (d + 2) t (.agg (arr k xs)) (.agg (arr k ys))).run P w = .ok (decide (xs = ys)) w := by
  have hsz' : ∀ w, (sizeOf e).run P w = .ok 1 w := by
    intro w
    cases hq : P.info? e with
    | none => simp [hq] at hsz
    | some i =>
      have : i.size = 1 := by simpa [hq] using hsz
      simp [sizeOf, typeInfo, hq, this]
  rw [← all_rd xs ys n hx hy, Op.equalIn]
  simp only [Sem.run_bind, run_underlying ht, Result.andThen_ok, hsz', Std.Legacy.Range.forIn_eq_forIn_range', Std.Legacy.Range.size, Nat.sub_zero, Nat.add_sub_cancel, Nat.div_one]
  have hl : ∀ i ∈ List.range' 0 n 1, i < n := fun i hi => by simpa using (List.mem_range'_1.1 hi).2
  generalize List.range' 0 n 1 = l at hl ⊢
  induction l with
  | nil => simp
  | cons i l ih =>
    have hi : i < n := hl i (by simp)
    have px : (part e (arr k xs) (i * 1)).run P w = .ok (.int k (rd xs (i : Nat))) w := by
      have := arr_get k xs i (by omega)
      simp [part, isAgg, run_underlying he, this]
    have py : (part e (arr k ys) (i * 1)).run P w = .ok (.int k (rd ys (i : Nat))) w := by
      have := arr_get k ys i (by omega)
      simp [part, isAgg, run_underlying he, this]
    have pe : (Op.equalIn (d + 1) e (.int k (rd xs (i : Nat))) (.int k (rd ys (i : Nat)))).run P w = .ok (rd xs (i : Nat) == rd ys (i : Nat)) w := run_equalIn_int w d e k k _ _ he
    have ih' := ih (fun j hj => hl j (by simp [hj]))
    simp only [List.forIn_cons, Sem.run_bind, px, py, pe, Result.andThen_ok, List.all_cons]
    cases hb : (rd xs (i : Nat) == rd ys (i : Nat)) with
    | true => simpa using ih'
    | false => simp
theorem C_arr {k : IntKind} {w : World} {g t : Nat} {xs : List Int} (hb : w.heap[g]? = some (.cells (arr k xs) t (0, 0))) (hl : xs.length ≤ 1000000) : Kd.C (Kd.int k) w (some ⟨g, 0, none⟩) xs.length xs := by
  refine ⟨rfl, by omega, fun hp => ⟨_, rfl, fun j p hj => ⟨[.int k p], rfl, rfl, fun i u hu => ?_⟩⟩⟩
  have hi : i = 0 := by
    have := (List.getElem?_eq_some_iff.1 hu).1
    simp at this
    omega
  subst hi
  have e : Value.int k p = u := by simpa using hu
  subst e
  rw [show (Kd.int k).sz = 1 from rfl, Nat.mul_one, Nat.add_zero, add_plain, blk_cell hb j]
  unfold arr
  rw [List.getElem?_toArray, List.getElem?_map, hj]
  rfl
/-- A row of bytes that was handed back new. -/
def NewRow (w w' : World) (e : Ending) (xs : List Int) : Prop := ∃ A c, e = .returned (.slice A xs.length c) ∧ xs.length ≤ c ∧ Kd.C (Kd.int .u8) w' A xs.length xs ∧ Below w.heap.size w w'
theorem newRow_of {w w' : World} {e : Ending} {xs : List Int} {ok : Nat → Prop} (h : ∃ v0_ : Value, e = .returned v0_ ∧ Kd.R (Kd.int .u8) 5 w' w.heap.size ok v0_ xs ∧ Below w.heap.size w w') : NewRow w w' e xs := by
  obtain ⟨v, rfl, hr, hb⟩ := h
  obtain ⟨A, c, rfl, hl, hc⟩ := Kd.R_reads hr
  exact ⟨A, c, rfl, hl, hc, hb⟩
theorem same_calls (A : Option Addr) (c : Nat) (xs : List Int) (A1 : Option Addr) (c1 : Nat) (ys : List Int) (w : World) (hC : Kd.C (Kd.int .u8) w A xs.length xs) (hcc : xs.length ≤ c) (hC1 : Kd.C (Kd.int .u8) w A1 ys.length ys) (hcc1 : ys.length ≤ c1) (hl : xs.length ≤ 1000000000000000000) : Calls Try.prog 17 #[.slice A xs.length c, .slice A1 ys.length c1] w fun e w' => e = .returned (.bool (decide (xs = ys))) ∧ ∃ m, w' = w.drewN m := by
  obtain ⟨k, hk⟩ := (Same_ev xs ys (by omega)).rounds
  exact (batonref01_Same.calls k A c xs A1 c1 ys _ w hC hcc hC1 hcc1 hk).mono fun e w' ⟨h1, h2⟩ => ⟨h1, h2.out⟩
end Go.Proofs.Ythcpfkkddfgamaa.Sha

namespace Go.Proofs.Ythcpfkkddfgamaa.Sha
open Go.RowKit Go.Proofs.YthcpfkkddfgamaaW.Hand Go.Proofs.YthcpfkkddfgamaaW.PrintWords Go.Proofs.YthcpfkkddfgamaaW.PrintLast Go.Proofs.YthcpfkkddfgamaaW.PrintMore Go.Proofs.Ythcpfkkddfgamaa.PF04A Go.Proofs.Ythcpfkkddfgamaa.Base Go.Proofs.Ythcpfkkddfgamaa.LF04A
set_option linter.unusedVariables false
set_option linter.unusedSimpArgs false

/-! ### hmac -/
end Go.Proofs.Ythcpfkkddfgamaa.Sha

namespace Go.Proofs.Ythcpfkkddfgamaa.Sha
open Go.RowKit Go.Proofs.YthcpfkkddfgamaaW.Hand Go.Proofs.YthcpfkkddfgamaaW.PrintWords Go.Proofs.YthcpfkkddfgamaaW.PrintLast Go.Proofs.YthcpfkkddfgamaaW.PrintMore Go.Proofs.Ythcpfkkddfgamaa.PF04A Go.Proofs.Ythcpfkkddfgamaa.Base Go.Proofs.Ythcpfkkddfgamaa.LF04A
set_option linter.unusedVariables false
set_option linter.unusedSimpArgs false

end Go.Proofs.Ythcpfkkddfgamaa.Sha

namespace Go.Proofs.Ythcpfkkddfgamaa.Sha
open Go.RowKit Go.Proofs.YthcpfkkddfgamaaW.Hand Go.Proofs.YthcpfkkddfgamaaW.PrintWords Go.Proofs.YthcpfkkddfgamaaW.PrintLast Go.Proofs.YthcpfkkddfgamaaW.PrintMore Go.Proofs.Ythcpfkkddfgamaa.PF04A Go.Proofs.Ythcpfkkddfgamaa.Base Go.Proofs.Ythcpfkkddfgamaa.LF04A
set_option linter.unusedVariables false
set_option linter.unusedSimpArgs false

end Go.Proofs.Ythcpfkkddfgamaa.Sha

namespace Go.Proofs.Ythcpfkkddfgamaa.Sha
open Go.RowKit Go.Proofs.YthcpfkkddfgamaaW.Hand Go.Proofs.YthcpfkkddfgamaaW.PrintWords Go.Proofs.YthcpfkkddfgamaaW.PrintLast Go.Proofs.YthcpfkkddfgamaaW.PrintMore Go.Proofs.Ythcpfkkddfgamaa.PF04A Go.Proofs.Ythcpfkkddfgamaa.Base Go.Proofs.Ythcpfkkddfgamaa.LF04A
set_option linter.unusedVariables false
set_option linter.unusedSimpArgs false

end Go.Proofs.Ythcpfkkddfgamaa.Sha

namespace Go.Proofs.Ythcpfkkddfgamaa.Sha
open Go.Great Go.RowKit Go.Proofs.YthcpfkkddfgamaaW.Hand Go.Proofs.YthcpfkkddfgamaaW.PrintWords Go.Proofs.YthcpfkkddfgamaaW.PrintLast Go.Proofs.YthcpfkkddfgamaaW.PrintMore Go.Proofs.Ythcpfkkddfgamaa.PF04A Go.Proofs.Ythcpfkkddfgamaa.Base Go.Proofs.Ythcpfkkddfgamaa.LF04A
set_option linter.unusedVariables false
set_option linter.unusedSimpArgs false

/-! ### literals of slices -/
theorem L_bslice {P : Program} {ops : Array Oper} {rest : List Oper} {o : Oper} {a : Act} {W : World} {Q : Exit → Act → World → Prop} (hgd : o.guard = none) (t e : TypeId) (len : Nat) (parts : Array (Nat × Operand)) (ho : o.op = .buildSlice t len parts) (hu : P.underlying t = some (.slice e)) (cells : Array Value)
    (hf : Go.Program.builtSlice P e len (parts.map fun (i, x) => (i, a.eval x)).toList = some cells)
    (h : ∀ g w1, w1.heap[g]? = some (.cells cells e (0, 0)) → W.heap.size = g → w1.heap.size = g + 1 → Below W.heap.size W w1 → wpList P ops Q rest (a.put o.dst (.slice (some ⟨g, 0, none⟩) len len)) w1) : wpList P ops Q (o :: rest) a W :=
  wpList_buildSliceTo hgd t e len parts ho W.heap.size rfl o.dst rfl hu cells hf (h W.heap.size _ (heap_alloc_new W _) rfl (by show (W.heap.push _).size = _; simp) ((Below.refl _ _).alloc (Nat.le_refl _) _))
end Go.Proofs.Ythcpfkkddfgamaa.Sha

namespace Go.Proofs.Ythcpfkkddfgamaa.Sha
open Go.RowKit Go.Proofs.YthcpfkkddfgamaaW.Hand Go.Proofs.YthcpfkkddfgamaaW.PrintWords Go.Proofs.YthcpfkkddfgamaaW.PrintLast Go.Proofs.YthcpfkkddfgamaaW.PrintMore Go.Proofs.Ythcpfkkddfgamaa.PF04A Go.Proofs.Ythcpfkkddfgamaa.Base Go.Proofs.Ythcpfkkddfgamaa.LF04A
set_option linter.unusedVariables false
set_option linter.unusedSimpArgs false

/-! ### bytes of a string: a row whose block bears a mark behind its last cell -/
theorem run_storeCells_atM (P : Program) (g o : Nat) (t : TypeId) (fz : Nat × Nat) : ∀ (vs : List Value) (i : Nat) (cur : Array Value) (w : World), w.heap[g]? = some (.cells cur t fz) → (fz.2 = 0 ∨ cur.size ≤ fz.1) → o + i + vs.length ≤ cur.size → (∀ v ∈ vs, v.oneCell' = true) →
    (storeCells ⟨g, o, none⟩ vs i).run P w = .ok () (w.setRow g (cur.toList.take (o + i) ++ vs ++ cur.toList.drop (o + i + vs.length)).toArray)
  | [], i, cur, w, hg, _, _, _ => by
    simp only [storeCells, List.append_nil, List.length_nil, Nat.add_zero, List.take_append_drop, Array.toArray_toList]
    rw [setRow_self w g cur t fz hg]
    rfl
  | v :: rest, i, cur, w, hg, hfz, hl, h1 => by
    have hi : o + i < cur.size := by simp at hl; omega
    have hadd : (⟨g, o, none⟩ : Addr).add i = ⟨g, o + i, none⟩ := by unfold Addr.add; split <;> simp_all
    have hcell : w.cell? ⟨g, o + i, none⟩ = some cur[o + i] := by simp [World.cell?, hg, hi]
    have hfro : w.frozen? ⟨g, o + i, none⟩ = false := by
      obtain ⟨lo, hi'⟩ := fz
      simp only [World.frozen?, hg, Bool.and_eq_false_iff, decide_eq_false_iff_not]
      simp only at hfz
      rcases hfz with h | h
      · right; omega
      · left; omega
    have hst : (store ((⟨g, o, none⟩ : Addr).add i) v).run P w = .ok () (w.setRow g (cur.setIfInBounds (o + i) v)) := by
      rw [hadd, run_store P w _ v _ (h1 v (by simp)), hcell]
      simp [hfro, setCell_eq_setRow w g (o + i) cur t fz v hg]
    have ih := run_storeCells_atM P g o t fz rest (i + 1) (cur.setIfInBounds (o + i) v) (w.setRow g (cur.setIfInBounds (o + i) v)) (setRow_heap w g cur _ t _ hg) (by simpa using hfz) (by simp at hl ⊢; omega) (fun x hx => h1 x (by simp [hx]))
    simp only [storeCells, Sem.run_bind, hst, Result.andThen_ok, ih, setRow_setRow]
    congr 3
    have e := list_seg_step cur.toList (o + i) v rest (by simp at hl ⊢; omega)
    simpa [Array.toList_setIfInBounds, Nat.add_assoc] using e
def QM (w : World) (base : Nat) (v : Value) (xs : List Int) : Prop :=
  ∃ g cap cur fz, v = .slice (some ⟨g, 0, none⟩) xs.length cap ∧ base ≤ g ∧ w.heap[g]? = some (.cells cur 5 fz) ∧ (fz.2 = 0 ∨ cur.size ≤ fz.1) ∧ xs.length ≤ cap ∧ cap ≤ maxLen ∧ cur.size = cap ∧ cur.toList.take xs.length = xs.map (Value.int .u8)
theorem QM.slice {w : World} {base : Nat} {v : Value} {xs : List Int} (h : QM w base v xs) : ∃ A c, v = .slice A xs.length c ∧ xs.length ≤ c := by
  obtain ⟨g, cap, cur, fz, rfl, _, _, _, h1, _⟩ := h
  exact ⟨_, _, rfl, h1⟩
theorem QM.lt {w : World} {base : Nat} {v : Value} {xs : List Int} (h : QM w base v xs) : ∀ k, v.ownBlock = some k → base ≤ k ∧ k < w.heap.size := by
  obtain ⟨g, cap, cur, fz, rfl, hb, hg, _⟩ := h
  intro k hk
  simp [Value.ownBlock] at hk
  subst hk
  exact ⟨hb, (Array.getElem?_eq_some_iff.1 hg).1⟩
theorem QM.below {w W : World} {base : Nat} {v : Value} {xs : List Int} (h : QM w base v xs) (hb : Below w.heap.size w W) : QM W base v xs := by
  obtain ⟨g, cap, cur, fz, rfl, hbg, hg, rest⟩ := h
  exact ⟨g, cap, cur, fz, rfl, hbg, (hb.block g (Array.getElem?_eq_some_iff.1 hg).1).trans hg, rest⟩
theorem QM.cells {w : World} {base g cap : Nat} {xs : List Int} (h : QM w base (.slice (some ⟨g, 0, none⟩) xs.length cap) xs) : ∀ (j : Nat) (u : Value), (xs.map (Value.int .u8))[j]? = some u → w.cell? ((⟨g, 0, none⟩ : Addr).add j) = some u := by
  intro j u hu
  obtain ⟨g', cap', cur, fz, e, _, hgg, _, _, _, _, htake⟩ := h
  simp only [Value.slice.injEq, Option.some.injEq, Addr.mk.injEq] at e
  obtain ⟨⟨rfl, _⟩, _, rfl⟩ := e
  have hadd : (⟨g, 0, none⟩ : Addr).add j = ⟨g, j, none⟩ := by unfold Addr.add; split <;> simp_all
  rw [hadd, cell_of_row w g j cur 5 fz hgg]
  rw [← htake, List.getElem?_take] at hu
  split at hu
  · simpa using hu
  · cases hu
theorem QM.C {w : World} {base : Nat} {A : Option Addr} {c : Nat} {xs : List Int} (h : QM w base (.slice A xs.length c) xs) : Kd.C (Kd.int .u8) w A xs.length xs := by
  obtain ⟨g, cap, cur, fz, e, hbg, hg, hfz, hle, hcm, hcs, htake⟩ := id h
  simp only [Value.slice.injEq] at e
  obtain ⟨rfl, _, rfl⟩ := e
  refine ⟨rfl, Nat.le_trans hle hcm, fun hp => ⟨_, rfl, fun j p hj => ⟨[.int .u8 p], rfl, rfl, fun i u hu => ?_⟩⟩⟩
  have hi : i = 0 := by
    have := (List.getElem?_eq_some_iff.1 hu).1
    simp at this
    omega
  subst hi
  have e' : Value.int .u8 p = u := by simpa using hu
  subst e'
  rw [show (Kd.int .u8).sz = 1 from rfl, Nat.mul_one, Nat.add_zero]
  exact h.cells j _ (by rw [List.getElem?_map, hj]; rfl)
theorem QM_run {P : Program} (w : World) (base : Nat) (t ty : TypeId) (ht : P.underlying t = some (.slice 5)) (hinfo : (P.info? 5).map (fun i => (i.zero, i.size, i.bytes)) = some (some (.int .u8 0), 1, 1))
    (v : Value) (xs ys : List Int) (A : Option Addr) (c : Nat) (h : QM w base v xs) (hC : Kd.C (Kd.int .u8) w A ys.length ys) (hp : 0 < ys.length) (hl : xs.length + ys.length ≤ 140737488355328) (hbase : base ≤ w.heap.size) :
    ∃ v' w', (Builtin.append_ #[t, t] ty #[v, .slice A ys.length c]).run P w = .ok v' w' ∧ QM w' base v' (xs ++ ys) ∧ w.grownBy w' v.ownBlock := by
  obtain ⟨i, hi, hzz⟩ := Option.map_eq_some_iff.1 hinfo
  simp only [Prod.mk.injEq] at hzz
  obtain ⟨hz, hsz, hby⟩ := hzz
  obtain ⟨a, rfl, hnews⟩ := C_cells0 hC hp
  obtain ⟨g, cap, cur, fz, rfl, hbg, hg, hfz, hnc, hcm, hcs, htake⟩ := id h
  have hlen : (xs ++ ys).length = xs.length + ys.length := List.length_append
  have hl1 : (nums .u8 ys).length = ys.length * i.size := by rw [nums_length, hsz, Nat.mul_one]
  have h1 : ∀ u ∈ nums .u8 ys, u.oneCell' = true := by intro u hu; simp [nums] at hu; obtain ⟨x, _, rfl⟩ := hu; rfl
  by_cases hroom : xs.length + ys.length ≤ cap
  · have hf := run_firstCells_some (P := P) w i.size ys.length a ys.length c (nums .u8 ys) hl1 hnews
    rw [hsz] at hf
    have hst := run_storeCells_atM P g xs.length 5 fz (nums .u8 ys) 0 cur w hg hfz (by rw [nums_length]; omega) h1
    simp only [Nat.add_zero] at hst
    have hr : (Builtin.append_ #[t, t] ty #[.slice (some ⟨g, 0, none⟩) xs.length cap, .slice (some a) ys.length c]).run P w = .ok (.slice (some ⟨g, 0, none⟩) (xs.length + ys.length) cap) (w.setRow g (cur.toList.take xs.length ++ nums .u8 ys ++ cur.toList.drop (xs.length + (nums .u8 ys).length)).toArray) := by
      simp [Builtin.append_, run_underlying ht, sizeOf, typeInfo, hi, Builtin.lenOf, hroom, hf, Addr.add_lit, hsz, hst]
    refine ⟨_, _, hr, ⟨g, cap, _, fz, by rw [hlen], hbg, setRow_heap w g cur _ 5 _ hg, ?_, by omega, hcm, ?_, ?_⟩, ⟨rfl, rfl, rfl, by simp, fun k _ hk => setRow_other w g k _ (fun e => hk (by simp [Value.ownBlock, e]))⟩⟩
    · rcases hfz with h | h
      · exact .inl h
      · right
        simp only [List.size_toArray, List.length_append, List.length_take, List.length_drop, Array.length_toList, nums_length]
        omega
    · simp only [List.size_toArray, List.length_append, List.length_take, List.length_drop, Array.length_toList, nums_length]
      omega
    · show ((cur.toList.take xs.length ++ nums .u8 ys ++ cur.toList.drop (xs.length + (nums .u8 ys).length))).take (xs ++ ys).length = _
      rw [htake, hlen, List.map_append]
      unfold nums
      rw [List.take_append_of_le_length (by simp), List.take_of_length_le (by simp)]
  · have hr := run_append_grow (P := P) w t ty 5 i (.int .u8 0) ht hi hz ⟨g, 0, none⟩ xs.length cap (xs.map (Value.int .u8)) (by rw [List.length_map, hsz, Nat.mul_one]) h.cells a ys.length c (nums .u8 ys) hl1 hnews (by omega) (by omega) (growslice_fits (by omega) (by rw [hby]; omega))
    have hge := grownCap_ge w (xs.length + ys.length) cap 5
    have hcm2 : grownCap w (xs.length + ys.length) cap 5 ≤ maxLen := grownCap_le_maxLen w (xs.length + ys.length) cap 5 (by simp only [maxLen]; omega)
    refine ⟨_, _, hr, ⟨w.heap.size, _, _, (0, 0), by rw [hlen], hbase, heap_alloc_new w.drew _, .inl rfl, by rw [hlen]; exact hge, hcm2, ?_, ?_⟩, ⟨rfl, rfl, rfl, by simp, fun k hk _ => heap_alloc_old w.drew _ hk⟩⟩
    · simp only [Array.size_append, List.size_toArray, size_zeroCells, List.length_map, nums_length]
      rw [show (Value.int .u8 0).cells.size = 1 from rfl]
      omega
    · simp only [Array.toList_append, hlen, List.map_append]
      unfold nums
      rw [List.take_append_of_le_length (by simp), List.take_of_length_le (by simp)]
section
variable {P : Program} {ops : Array Oper} {rest : List Oper} {o : Oper} {a : Act} {W : World} {Q : Exit → Act → World → Prop}
theorem L_appendM (hgd : o.guard = none) (s x : Operand) (t : TypeId) (ho : o.op = .call { callee := .builtin .append, args := #[s, x], argTypes := #[t, t] }) (ht : P.underlying t = some (.slice 5)) (hinfo : (P.info? 5).map (fun i => (i.zero, i.size, i.bytes)) = some (some (.int .u8 0), 1, 1))
    (base : Nat) (v : Value) (xs ys : List Int) (A : Option Addr) (c : Nat) (hs : a.eval s = v) (hx : a.eval x = .slice A ys.length c) (hQ : QM W base v xs) (hC : Kd.C (Kd.int .u8) W A ys.length ys) (hp : 0 < ys.length) (hl : xs.length + ys.length ≤ 140737488355328) (hbase : base ≤ W.heap.size)
    (h : ∀ v' w', QM w' base v' (xs ++ ys) → W.grownBy w' v.ownBlock → wpList P ops Q rest (a.put o.dst v') w') : wpList P ops Q (o :: rest) a W := by
  obtain ⟨v', w', hr, h1, h2⟩ := QM_run W base t o.type ht hinfo v xs ys A c hQ hC hp hl hbase
  refine wpList_plain hgd fun K hK => ?_
  unfold Oper.wp execOp
  simp only [ho, resolve, invoke, builtin, Sem.run_bind, Sem.run_pure, Result.andThen_ok, List.map_toArray, List.map_cons, List.map_nil, hs, hx, hr]
  exact hK _ _ (h v' w' h1 h2)
/-- The bytes of a string. -/
def bytesS (s : ByteArray) : List Int := s.data.toList.map (fun b => (b.toNat : Int))
theorem bytesS_length (s : ByteArray) : (bytesS s).length = s.size := by unfold bytesS; rw [List.length_map, Array.length_toList]; rfl
theorem L_conv (hgd : o.guard = none) (src dst : TypeId) (x : Operand) (ho : o.op = .convert src dst x) (s : ByteArray) (hx : a.eval x = .string s) (hs : P.underlying src = some .string) (hd : P.underlying dst = some (.slice 5)) (he : P.underlying 5 = some (.int .u8)) (hsm : s.size ≤ maxLen)
    (base : Nat) (hbase : base ≤ W.heap.size)
    (h : ∀ v' w', QM w' base v' (bytesS s) → Below W.heap.size W w' → wpList P ops Q rest (a.put o.dst v') w') : wpList P ops Q (o :: rest) a W := by
  have hr := run_bytes_of_string (P := P) W src dst 5 s hs hd he
  have hge := grownCap_ge W s.size 0 5
  have hsz : (bytesRow s (grownCap W s.size 0 5)).size = grownCap W s.size 0 5 := by
    unfold bytesRow
    simp only [Array.size_append, Array.size_map, Array.size_replicate]
    have : s.data.size = s.size := rfl
    omega
  refine Kd.event_run hgd (v := .slice (some ⟨W.heap.size, 0, none⟩) s.size (grownCap W s.size 0 5)) (w1 := W.drew.alloc (.cells (bytesRow s (grownCap W s.size 0 5)) 5 ((bytesRow s (grownCap W s.size 0 5)).size, (bytesRow s (grownCap W s.size 0 5)).size + 1))) ?_ (h _ _ ⟨W.heap.size, grownCap W s.size 0 5, _, _, by rw [bytesS_length], hbase, heap_alloc_new W.drew _, .inr (Nat.le_refl _), by rw [bytesS_length]; exact hge, grownCap_le_maxLen W s.size 0 5 hsm, hsz, ?_⟩ (((Below.refl _ _).drew).alloc (Nat.le_refl _) _))
  · simp [execOp, ho, hx, hr]
  · rw [bytesS_length]
    unfold bytesRow bytesS
    rw [Array.toList_append, Array.toList_map, List.take_append_of_le_length (by rw [List.length_map, Array.length_toList]; exact Nat.le_refl _), List.take_of_length_le (by rw [List.length_map, Array.length_toList]; exact Nat.le_refl _), List.map_map]
    rfl
end
end Go.Proofs.Ythcpfkkddfgamaa.Sha

namespace Go.Proofs.Ythcpfkkddfgamaa.Sha
open Go.RowKit Go.Proofs.YthcpfkkddfgamaaW.Hand Go.Proofs.YthcpfkkddfgamaaW.PrintWords Go.Proofs.YthcpfkkddfgamaaW.PrintLast Go.Proofs.YthcpfkkddfgamaaW.PrintMore Go.Proofs.Ythcpfkkddfgamaa.PF04A Go.Proofs.Ythcpfkkddfgamaa.Base Go.Proofs.Ythcpfkkddfgamaa.LF04A
set_option linter.unusedVariables false
set_option linter.unusedSimpArgs false

/-! ### label.Of -/
def flip8 (x : Int) : Int := Go.bits .xor .u64 (IntKind.u64.wrap x) 9223372036854775808
def num8 (x : Int) : List Int := be 8 (flip8 x)
def labelL (s : ByteArray) (nums : List Int) : List Int := bytesS s ++ [0] ++ (nums.map num8).flatten
theorem bits_u64 (op : BinOp) (a b : Int) : 0 ≤ Go.bits op .u64 a b ∧ Go.bits op .u64 a b ≤ 18446744073709551615 := by
  unfold Go.bits
  cases op <;> simp only [IntKind.wrap_u64] <;> omega
theorem put8_calls (n : Int) (h0 : 0 ≤ n) (h1 : n ≤ 18446744073709551615) (w : World) : Calls Try.prog 67 #[.int .u64 n, .int .i64 8] w fun e w' => ∃ A c, e = .returned (.tuple #[.slice A (be 8 n).length c, .int .i64 0]) ∧ (be 8 n).length ≤ c ∧ Kd.C (Kd.int .u8) w' A (be 8 n).length (be 8 n) ∧ Below w.heap.size w w' := by
  have h8 : putSpec n 8 = (be 8 n, 0) := by
    unfold putSpec
    rw [if_neg (by omega), if_neg (by omega)]
    rfl
  obtain ⟨k, hk⟩ := (Put_ev n 8 h0 h1).rounds
  rw [h8] at hk
  refine (word_Put.calls k n 8 _ _ w hk).mono ?_
  rintro e w' ⟨v, rfl, hr, hb⟩
  obtain ⟨A, c, e1, h2, h3, _⟩ := newRow_of (w := w) (e := .returned v) ⟨v, rfl, hr, hb⟩
  injection e1 with e1
  subst e1
  exact ⟨A, c, rfl, h2, h3, hb⟩
theorem C_atI {k : IntKind} {w : World} {A : Option Addr} {l : List Int} (h : Kd.C (Kd.int k) w A l.length l) (i : Nat) (hi : i < l.length) : ∃ ad, A = some ad ∧ w.cell? (ad.add i) = some (.int k (rd l (i : Nat))) := by
  obtain ⟨ad, e, hc⟩ := C_cells h (by omega)
  refine ⟨ad, e, hc i _ ?_⟩
  rw [List.getElem?_map, List.getElem?_eq_getElem hi, rd_lt hi]
  rfl
theorem num8_length (x : Int) : (num8 x).length = 8 := by unfold num8; exact be_length 8 _
theorem flat8_length (nums : List Int) : ((nums.map num8).flatten).length = 8 * nums.length := by
  induction nums with
  | nil => rfl
  | cons x r ih =>
    simp only [List.map_cons, List.flatten_cons, List.length_append, num8_length, ih, List.length_cons]
    omega
theorem labelL_length (s : ByteArray) (nums : List Int) : (labelL s nums).length = s.size + 1 + 8 * nums.length := by
  unfold labelL
  rw [List.length_append, List.length_append, bytesS_length, flat8_length]
  rfl
theorem label_step (s : ByteArray) (nums : List Int) (k : Nat) (hk : k < nums.length) : labelL s (nums.take k) ++ num8 (rd nums (k : Nat)) = labelL s (nums.take (k + 1)) := by
  unfold labelL
  rw [List.take_succ_eq_append_getElem hk, List.map_append, List.flatten_append, ← List.append_assoc, rd_lt hk]
  simp
set_option maxHeartbeats 8000000 in
set_option maxRecDepth 100000 in
theorem Of_calls (s : ByteArray) (A : Option Addr) (c : Nat) (nums : List Int) (w : World) (hs : s.size ≤ 1000000) (hC : Kd.C (Kd.int .i64) w A nums.length nums) (hcc : nums.length ≤ c) (hl : nums.length ≤ 1000000) :
    Calls Try.prog 19 #[.string s, .slice A nums.length c] w fun e w' => NewRow w w' e (labelL s nums) := by
  have HC := Aside0.mk hC
  clear hC
  obtain ⟨B, hB⟩ : ∃ B, B = bytesS s := ⟨_, rfl⟩
  have hBl : B.length = s.size := by rw [hB]; exact bytesS_length s
  obtain ⟨T0, hT0⟩ : ∃ T, T = B ++ [0] := ⟨_, rfl⟩
  have HT0 := Aside0.mk hT0
  have HBE := Aside0.mk hB
  have HBL := Aside0.mk hBl
  clear hT0 hB hBl
  go_enter Try.func19, Try.ntmps19
  go_wp2_with (first | ((with_reducible refine gate_dst (N := 11) rfl ?_); refine L_conv rfl 9 28 (.tmp 10) rfl s rfl Try.underlying9 Try.underlying28 Try.underlying5 (Nat.le_trans hs (by decide)) w.heap.size (Nat.le_refl _) ?_; intro v1 w1 hq1 hb1; rw [← HBE.out] at hq1; obtain ⟨A1, c1, hv1, hle1⟩ := hq1.slice; subst hv1; have HQ1 := Aside0.mk hq1; have HB1 := Aside0.mk hb1; clear hq1 hb1) | ((with_reducible refine gate_dst (N := 12) rfl ?_); refine L_bslice rfl 28 5 1 _ rfl Try.underlying28 (arr .u8 [0]) (by kernel_rfl) ?_; intro g12 w2 hb12 hg12 hs12 hl12; have HB12 := Aside0.mk hb12; clear hb12; have HG12 := Aside0.mk hg12; clear hg12; have HS12 := Aside0.mk hs12; clear hs12; have HL12 := Aside0.mk hl12; clear hl12) | ((with_reducible refine gate_builtin (b := .append) (xs := #[.tmp 11, .tmp 12]) rfl ?_); refine L_appendM rfl (.tmp 11) (.tmp 12) 28 rfl Try.underlying28 info5 w.heap.size (.slice A1 B.length c1) B [0] (some ⟨g12, 0, none⟩) 1 rfl rfl (HQ1.out.below HL12.out) (C_arr (xs := [0]) HB12.out (by simp)) (by simp) (by rw [HBL.out]; simp; omega) (below_step HB1.out HL12.out).size ?_; intro v3 w3 hq3 hgr3; rw [← HT0.out] at hq3; obtain ⟨A3, c3, hv3, hle3⟩ := hq3.slice; subst hv3; have HBW3 := Aside0.mk ((below_step HB1.out HL12.out).grown hgr3 (below_step HB1.out HL12.out).size (fun k hk => (HQ1.out.lt k hk).1)); have HQ3 := Aside0.mk hq3; clear hq3 hgr3))
  have hI : Aside0 (QM w3 w.heap.size (.slice A3 T0.length c3) (labelL s (nums.take 0)) ∧ Below w.heap.size w w3) := by
    refine ⟨?_, HBW3.out⟩
    have e : labelL s (nums.take 0) = T0 := by rw [HT0.out, HBE.out]; unfold labelL; simp
    rw [e]
    exact HQ3.out
  clear HQ3 HBW3 HQ1 HB1 HB12 HG12 HS12 HL12
  go_loopw [5, 16] (fun va i wr => ∃ k : Nat, k ≤ nums.length ∧ i = .int .i64 k ∧ Aside0 (QM wr w.heap.size va (labelL s (nums.take k)) ∧ Below w.heap.size w wr)) (fun _ i _ => nums.length - (intOf i).toNat)
  case atStart => exact ⟨0, by omega, rfl, hI⟩
  case round =>
    clear hI
    obtain ⟨k, hk, rfl, HR⟩ := hrel
    by_cases hlt : k < nums.length
    · obtain ⟨ad, hAd, hcx⟩ := C_atI (Kd.C_below HC.out HR.out.2) k hlt
      subst hAd
      obtain ⟨x, hx⟩ : ∃ x, x = rd nums (k : Nat) := ⟨_, rfl⟩
      rw [← hx] at hcx
      obtain ⟨T, hT⟩ : ∃ T, T = labelL s (nums.take k) := ⟨_, rfl⟩
      have hTl : T.length ≤ 10000000 := by rw [hT, labelL_length, List.length_take]; omega
      obtain ⟨hQ, hbe⟩ := HR.out
      obtain ⟨Av, cv, rfl, hcv⟩ := hQ.slice
      rw [← hT] at hQ hcv
      rw [← hT]
      have HQ := Aside0.mk hQ
      have HBE := Aside0.mk hbe
      clear hQ hbe
      have HX := Aside0.mk (And.intro hx hT)
      obtain ⟨T6, hT6⟩ : ∃ X, X = T ++ num8 x := ⟨_, rfl⟩
      have HT6 := Aside0.mk hT6
      clear hT6
      clear HR hx hT
      go_wp2_with (first | (go_at_call 67; refine (put8_calls (flip8 x) (bits_u64 _ _ _).1 (bits_u64 _ _ _).2 _).mono ?_; rintro e w5 ⟨A5, c5, rfl, hle5, hC5, hb5⟩; have HC5 := Aside0.mk hC5; have HB5 := Aside0.mk hb5; clear hC5 hb5) | ((with_reducible refine gate_builtin (b := .append) (xs := #[.tmp 27, .tmp 28]) rfl ?_); refine L_appendM rfl (.tmp 27) (.tmp 28) 28 rfl Try.underlying28 info5 w.heap.size (.slice Av T.length cv) T (num8 x) A5 c5 rfl rfl (HQ.out.below HB5.out) HC5.out (by rw [num8_length]; omega) (by rw [num8_length]; omega) (below_step HBE.out HB5.out).size ?_; intro v6 w6 hq6 hgr6; rw [← HT6.out] at hq6; have HBW6 := Aside0.mk ((below_step HBE.out HB5.out).grown hgr6 (below_step HBE.out HB5.out).size (fun k hk => (HQ.out.lt k hk).1)); have HQ6 := Aside0.mk hq6; obtain ⟨A6, c6, hv6, hle6⟩ := hq6.slice; subst hv6; clear hq6 hgr6))
      go_roundw
      case rel =>
        refine ⟨k + 1, by omega, by go_num, ⟨?_, ?_⟩⟩
        · rw [← label_step s nums k hlt, ← HX.out.1, ← HX.out.2, ← HT6.out]
          exact HQ6.out
        · exact HBW6.out
      case measure => simp [intOf]; omega
    · obtain rfl : k = nums.length := by omega
      obtain ⟨T, hT⟩ : ∃ T, T = labelL s nums := ⟨_, rfl⟩
      obtain ⟨hQ, hbe⟩ := HR.out
      rw [List.take_of_length_le (Nat.le_refl _)] at hQ
      obtain ⟨Av, cv, rfl, hcv⟩ := hQ.slice
      rw [← hT] at hQ hcv
      rw [← hT]
      have HQ := Aside0.mk hQ
      have HBE := Aside0.mk hbe
      clear hQ hbe
      have HTT := Aside0.mk hT
      clear HR hT
      go_wp2
      go_ret
      have hT2 := HTT.out
      clear HTT
      subst hT2
      exact ⟨Av, cv, rfl, hcv, HQ.out.C, HBE.out⟩
end Go.Proofs.Ythcpfkkddfgamaa.Sha

namespace Go.Proofs.Ythcpfkkddfgamaa.Sha
open Go.RowKit Go.Proofs.YthcpfkkddfgamaaW.Hand Go.Proofs.YthcpfkkddfgamaaW.PrintWords Go.Proofs.YthcpfkkddfgamaaW.PrintLast Go.Proofs.YthcpfkkddfgamaaW.PrintMore Go.Proofs.Ythcpfkkddfgamaa.PF04A Go.Proofs.Ythcpfkkddfgamaa.Base Go.Proofs.Ythcpfkkddfgamaa.LF04A
set_option linter.unusedVariables false
set_option linter.unusedSimpArgs false

/-! ### batonref04.Of: the plain law -/
theorem flip8_add (x : Int) : IntKind.u64.wrap (IntKind.u64.wrap x + 9223372036854775808) = flip8 x := by
  unfold flip8
  have h0 : 0 ≤ IntKind.u64.wrap x := by rw [IntKind.wrap_u64]; omega
  have h1 : IntKind.u64.wrap x < 18446744073709551616 := by rw [IntKind.wrap_u64]; omega
  obtain ⟨a, ha⟩ := Int.eq_ofNat_of_zero_le h0
  rw [ha] at h1 ⊢
  have h1' : a < 18446744073709551616 := by omega
  have e := bits_xor_u64_nat a 9223372036854775808 h1' (by decide)
  rw [show ((9223372036854775808 : Nat) : Int) = 9223372036854775808 from rfl] at e
  rw [e, IntKind.wrap_u64]
  have hd : (a ^^^ 9223372036854775808) / 2 ^ 63 = (a / 2 ^ 63) ^^^ (9223372036854775808 / 2 ^ 63) := Nat.xor_div_two_pow
  have hm : (a ^^^ 9223372036854775808) % 2 ^ 63 = (a % 2 ^ 63) ^^^ (9223372036854775808 % 2 ^ 63) := Nat.xor_mod_two_pow
  rw [show (9223372036854775808 : Nat) / 2 ^ 63 = 1 from by decide] at hd
  rw [show (9223372036854775808 : Nat) % 2 ^ 63 = 0 from by decide, Nat.xor_zero] at hm
  have h01 : a / 2 ^ 63 = 0 ∨ a / 2 ^ 63 = 1 := by omega
  rcases h01 with h | h
  · rw [h, show (0 ^^^ 1 : Nat) = 1 from rfl] at hd
    omega
  · rw [h, show (1 ^^^ 1 : Nat) = 0 from rfl] at hd
    omega
theorem of_l2 (nums acc : List Int) (i x0 : Int) (R : List Int) (h0 : 0 ≤ x0) (h1 : x0 ≤ 18446744073709551615) (hacc : acc.length ≤ 1000000000) (hnext : Ev (fun k => batonref04_Of.l1 k nums (acc ++ be 8 x0) (wrap64 (i + 1))) R) : ∀ (d j : Nat), 8 - j = d → j ≤ 8 → Ev (fun k => batonref04_Of.l2 k nums acc i (x0 / 2 ^ (8 * j)) (be j x0) (j : Int)) R := by
  intro d
  induction d with
  | zero =>
    intro j hd hj
    obtain rfl : j = 8 := by omega
    apply ev_succ
    simp only [batonref04_Of.l2, if_neg (show ¬ (((8 : Nat) : Int) < 8) by omega), if_pos (show acc.length + (be 8 x0).length < 140737488355328 by rw [be_length]; omega)]
    exact hnext
  | succ d ih =>
    intro j hd hj
    have hw : wrap64 ((j : Int) + 1) = ((j + 1 : Nat) : Int) := by rw [w64 (by omega) (by omega)]; omega
    have hp : (0 : Int) < 2 ^ (8 * j) := Int.pow_pos (by decide)
    have hx0 : 0 ≤ x0 / 2 ^ (8 * j) := Int.ediv_nonneg h0 (Int.le_of_lt hp)
    have hx1 : x0 / 2 ^ (8 * j) ≤ x0 := Int.ediv_le_self _ h0
    have e1 : Int.tmod (x0 / 2 ^ (8 * j)) 256 % 256 = x0 / 2 ^ (8 * j) % 256 := by
      rw [Int.tmod_eq_emod_of_nonneg hx0]
      omega
    have e2 : IntKind.u64.wrap (Int.tdiv (x0 / 2 ^ (8 * j)) 256) = x0 / 2 ^ (8 * (j + 1)) := by
      have e3 : x0 / 2 ^ (8 * (j + 1)) = x0 / 2 ^ (8 * j) / 256 := by
        rw [show 8 * (j + 1) = 8 * j + 8 from rfl, Int.pow_add, show (2 : Int) ^ 8 = 256 from rfl, Int.ediv_ediv_of_nonneg (Int.le_of_lt hp)]
      rw [Int.tdiv_eq_ediv_of_nonneg hx0, IntKind.wrap_u64, e3]
      clear e3 e1
      generalize x0 / 2 ^ (8 * j) = q at *
      omega
    apply ev_succ
    simp only [batonref04_Of.l2, if_pos (show (j : Int) < 8 by omega), hw, Option.bind_some, e1, e2, List.length_singleton, if_pos (show 1 + (be j x0).length < 140737488355328 by rw [be_length]; omega), List.singleton_append]
    exact ih (j + 1) (by omega) (by omega)
theorem of_l1 (nums : List Int) (hn : nums.length ≤ 1000000) : ∀ (d i : Nat) (acc : List Int), nums.length - i = d → i ≤ nums.length → acc.length + 8 * d ≤ 1000000000 → Ev (fun k => batonref04_Of.l1 k nums acc (i : Int)) (acc ++ ((nums.drop i).map num8).flatten) := by
  intro d
  induction d with
  | zero =>
    intro i acc hd hi ha
    obtain rfl : i = nums.length := by omega
    apply ev_succ
    simp only [batonref04_Of.l1, if_neg (show ¬ ((nums.length : Int) < (nums.length : Int)) by omega)]
    exact ev_eq (ev_some _) (by simp)
  | succ d ih =>
    intro i acc hd hi ha
    have hlt : i < nums.length := by omega
    have hw : wrap64 ((i : Int) + 1) = ((i + 1 : Nat) : Int) := by rw [w64 (by omega) (by omega)]; omega
    apply ev_succ
    simp only [batonref04_Of.l1, if_pos (show (i : Int) < (nums.length : Int) by omega), if_pos (show (0 : Int) ≤ (i : Int) by omega), flip8_add]
    have hb := bits_u64 .xor (IntKind.u64.wrap (rd nums (i : Nat))) 9223372036854775808
    have hl2 := of_l2 nums acc (i : Int) (flip8 (rd nums (i : Nat))) (acc ++ ((nums.drop i).map num8).flatten) hb.1 hb.2 (by omega) (by
      rw [hw]
      refine ev_eq (ih (i + 1) _ (by omega) (by omega) (by rw [List.length_append, be_length]; omega)) ?_
      rw [List.drop_eq_getElem_cons hlt, List.map_cons, List.flatten_cons, List.append_assoc, rd_lt hlt]
      rfl) 8 0 (by omega) (by omega)
    simpa [be] using hl2
theorem of_l0 (s : ByteArray) (nums : List Int) (hs : s.size ≤ 1000000) (hn : nums.length ≤ 1000000) : ∀ (d i : Nat) (acc : List Int), s.size - i = d → i ≤ s.size → acc.length + d ≤ 2000000 → Ev (fun k => batonref04_Of.l0 k s nums acc (i : Int)) (acc ++ (bytesS s).drop i ++ [0] ++ (nums.map num8).flatten) := by
  intro d
  induction d with
  | zero =>
    intro i acc hd hi ha
    obtain rfl : i = s.size := by omega
    apply ev_succ
    simp only [batonref04_Of.l0, if_neg (show ¬ ((s.size : Int) < (s.size : Int)) by omega), if_pos (show acc.length < 140737488355328 by omega)]
    refine ev_eq (of_l1 nums hn nums.length 0 _ (by omega) (by omega) (by rw [List.length_append, List.length_singleton]; omega)) ?_
    rw [← bytesS_length s, List.drop_length]
    simp
  | succ d ih =>
    intro i acc hd hi ha
    have hlt : i < s.size := by omega
    have hw : wrap64 ((i : Int) + 1) = ((i + 1 : Nat) : Int) := by rw [w64 (by omega) (by omega)]; omega
    apply ev_succ
    simp only [batonref04_Of.l0, if_pos (show (i : Int) < (s.size : Int) by omega), if_pos (show (0 : Int) ≤ (i : Int) by omega), if_pos (show acc.length < 140737488355328 by omega), hw]
    refine ev_eq (ih (i + 1) _ (by omega) (by omega) (by rw [List.length_append, List.length_singleton]; omega)) ?_
    have hlb : i < (bytesS s).length := by rw [bytesS_length]; exact hlt
    have hbt : (bytesS s)[i] = bt s (i : Int) := by
      have hd : i < s.data.size := hlt
      have e : (bytesS s)[i]? = some (bt s (i : Int)) := by
        unfold bytesS
        rw [List.getElem?_map, Array.getElem?_toList, Array.getElem?_eq_getElem hd]
        unfold bt
        rw [dif_pos (show (i : Int).toNat < s.size by omega)]
        rfl
      rw [List.getElem?_eq_getElem hlb] at e
      injection e
    rw [List.drop_eq_getElem_cons hlb, hbt]
    simp
theorem labelRef_ev (s : ByteArray) (nums : List Int) (hs : s.size ≤ 1000000) (hn : nums.length ≤ 1000000) : Ev (fun k => batonref04_Of.f k s nums) (labelL s nums) := by
  unfold batonref04_Of.f
  refine ev_eq (of_l0 s nums hs hn s.size 0 [] (by omega) (by omega) (by simp; omega)) ?_
  unfold labelL
  simp
theorem refOf_calls (s : ByteArray) (A : Option Addr) (c : Nat) (nums : List Int) (w : World) (hs : s.size ≤ 1000000) (hC : Kd.C (Kd.int .i64) w A nums.length nums) (hcc : nums.length ≤ c) (hl : nums.length ≤ 1000000) :
    Calls Try.prog 20 #[.string s, .slice A nums.length c] w fun e w' => NewRow w w' e (labelL s nums) := by
  obtain ⟨k, hk⟩ := (labelRef_ev s nums hs hl).rounds
  exact (batonref04_Of.calls k s A c nums _ w hC hcc hk).mono fun e w' h => newRow_of h
end Go.Proofs.Ythcpfkkddfgamaa.Sha

namespace Go.Proofs.Ythcpfkkddfgamaa.Sha
open Go.RowKit Go.Proofs.YthcpfkkddfgamaaW.Hand Go.Proofs.YthcpfkkddfgamaaW.PrintWords Go.Proofs.YthcpfkkddfgamaaW.PrintLast Go.Proofs.YthcpfkkddfgamaaW.PrintMore Go.Proofs.Ythcpfkkddfgamaa.PF04A Go.Proofs.Ythcpfkkddfgamaa.Base Go.Proofs.Ythcpfkkddfgamaa.LF04A
set_option linter.unusedVariables false
set_option linter.unusedSimpArgs false

end Go.Proofs.Ythcpfkkddfgamaa.Sha

namespace Go.Proofs.Ythcpfkkddfgamaa.Sha
open Go.RowKit Go.Proofs.YthcpfkkddfgamaaW.Hand Go.Proofs.YthcpfkkddfgamaaW.PrintWords Go.Proofs.YthcpfkkddfgamaaW.PrintLast Go.Proofs.YthcpfkkddfgamaaW.PrintMore Go.Proofs.Ythcpfkkddfgamaa.PF04A Go.Proofs.Ythcpfkkddfgamaa.Base Go.Proofs.Ythcpfkkddfgamaa.LF04A
set_option linter.unusedVariables false
set_option linter.unusedSimpArgs false

/-! ### batonref03.Sum -/
end Go.Proofs.Ythcpfkkddfgamaa.Sha

namespace Go.Proofs.Ythcpfkkddfgamaa.Sha
open Go.RowKit Go.Proofs.YthcpfkkddfgamaaW.Hand Go.Proofs.YthcpfkkddfgamaaW.PrintWords Go.Proofs.YthcpfkkddfgamaaW.PrintLast Go.Proofs.YthcpfkkddfgamaaW.PrintMore Go.Proofs.Ythcpfkkddfgamaa.PF04A Go.Proofs.Ythcpfkkddfgamaa.Base Go.Proofs.Ythcpfkkddfgamaa.LF04A
set_option linter.unusedVariables false
set_option linter.unusedSimpArgs false

/-! ### hmac.Same, Check -/
theorem sameB_calls (A : Option Addr) (c : Nat) (xs : List Int) (A1 : Option Addr) (c1 : Nat) (ys : List Int) (r : Bool) (w : World) (hC : Kd.C (Kd.int .u8) w A xs.length xs) (hcc : xs.length ≤ c) (hC1 : Kd.C (Kd.int .u8) w A1 ys.length ys) (hcc1 : ys.length ≤ c1) (hl : xs.length ≤ 1000000000000000000) (hr : decide (xs = ys) = r) : Calls Try.prog 17 #[.slice A xs.length c, .slice A1 ys.length c1] w fun e w' => e = .returned (.bool r) ∧ Below w.heap.size w w' := by
  refine (same_calls A c xs A1 c1 ys w hC hcc hC1 hcc1 hl).mono ?_
  rintro e w' ⟨rfl, m, rfl⟩
  exact ⟨by rw [hr], pw_below_drewN (Below.refl _ _) m⟩
end Go.Proofs.Ythcpfkkddfgamaa.Sha

namespace Go.Proofs.Ythcpfkkddfgamaa.Sha
open Go.RowKit Go.Proofs.YthcpfkkddfgamaaW.Hand Go.Proofs.YthcpfkkddfgamaaW.PrintWords Go.Proofs.YthcpfkkddfgamaaW.PrintLast Go.Proofs.YthcpfkkddfgamaaW.PrintMore Go.Proofs.Ythcpfkkddfgamaa.PF04A Go.Proofs.Ythcpfkkddfgamaa.Base Go.Proofs.Ythcpfkkddfgamaa.LF04A
set_option linter.unusedVariables false
set_option linter.unusedSimpArgs false

section
variable {P : Program} {ops : Array Oper} {rest : List Oper} {o : Oper} {a : Act} {W : World} {Q : Exit → Act → World → Prop}
end
end Go.Proofs.Ythcpfkkddfgamaa.Sha

namespace Go.Proofs.Ythcpfkkddfgamaa.Sha
open Go.RowKit Go.Proofs.YthcpfkkddfgamaaW.Hand Go.Proofs.YthcpfkkddfgamaaW.PrintWords Go.Proofs.YthcpfkkddfgamaaW.PrintLast Go.Proofs.YthcpfkkddfgamaaW.PrintMore Go.Proofs.Ythcpfkkddfgamaa.PF04A Go.Proofs.Ythcpfkkddfgamaa.Base Go.Proofs.Ythcpfkkddfgamaa.LF04A
set_option linter.unusedVariables false
set_option linter.unusedSimpArgs false

/-! ### keys -/
section
variable {P : Program} {ops : Array Oper} {o : Oper} {a : Act} {W : World} {K : Act → World → Prop} {Q : Exit → Act → World → Prop} {E : Prop}
theorem step_of (hw : Region.wanted o (yielded ops a.tmps) = true) (h : Oper.wp P o a W K Q) : if Region.wanted o (yielded ops a.tmps) = true then Oper.wp P o a W K Q else E := by
  rw [if_pos hw]
  exact h
theorem W_call (f : FuncId) (args : Array Value) (hrun : (execOp a.eval o).run P W = .ok (.enter f args) W) (hc : Calls P f args W fun e w' => ∃ v, e = .returned v ∧ K (a.put o.dst v) w') : o.wp P a W K Q := by
  unfold Oper.wp
  rw [hrun, Oper.upon_enter]
  refine hc.mono fun e w'' hh => ?_
  obtain ⟨v, rfl, hk⟩ := hh
  exact hk
theorem W_bslice (t e : TypeId) (len : Nat) (parts : Array (Nat × Operand)) (ho : o.op = .buildSlice t len parts) (hu : P.underlying t = some (.slice e)) (cells : Array Value)
    (hf : Go.Program.builtSlice P e len (parts.map fun (i, x) => (i, a.eval x)).toList = some cells)
    (h : ∀ g w1, w1.heap[g]? = some (.cells cells e (0, 0)) → W.heap.size = g → w1.heap.size = g + 1 → Below W.heap.size W w1 → K (a.put o.dst (.slice (some ⟨g, 0, none⟩) len len)) w1) : o.wp P a W K Q := by
  unfold Program.builtSlice at hf
  cases hie : P.info? e with
  | none => simp [hie] at hf
  | some ie =>
    simp only [hie] at hf
    cases hz : ie.zero with
    | none => simp [hz] at hf
    | some z =>
      simp only [hz] at hf
      by_cases hc : len * ie.size > 2 ^ 24 ∨ len * ie.size = 0
      · simp [hc] at hf
      · rw [if_neg hc] at hf
        exact wp_buildSlice t e len parts ho cells ie z hu hie hz (fun h' => hc (Or.inl h')) (fun h' => hc (Or.inr h')) hf (h _ _ (heap_alloc_new W _) rfl (by show (W.heap.push _).size = _; simp) ((Below.refl _ _).alloc (Nat.le_refl _) _))
theorem W_store (hd : o.dst = none) (ty : TypeId) (x y : Operand) (ho : o.op = .store ty x y) (g : Nat) (hx : a.eval x = .pointer (some ⟨g, 0, none⟩)) (cs : Array Value) (hy : a.eval y = .agg cs)
    (hi : (P.info? ty).map (·.size) = some cs.size) (cur : Array Value) (t : TypeId) (hg : W.heap[g]? = some (.cells cur t (0, 0))) (hfit : cs.size = cur.size) (h1 : cs.all (·.oneCell') = true)
    (h : ∀ w', w'.heap[g]? = some (.cells cs t (0, 0)) → Upd W w' g → K a w') : o.wp P a W K Q := by
  have hst := run_storeCells_at P g 0 t cs.toList 0 cur W hg (by simp [hfit]) (fun v hv => (Array.all_eq_true_iff_forall_mem.1 h1) v (by simpa using hv))
  have hnew : (cur.toList.take 0 ++ cs.toList ++ cur.toList.drop cs.toList.length).toArray = cs := by
    rw [Array.length_toList, hfit, List.drop_of_length_le (by simp)]
    simp
  simp only [Nat.add_zero, Nat.zero_add, hnew] at hst
  unfold Oper.wp execOp
  cases hq : P.info? ty with
  | none => simp [hq] at hi
  | some ii =>
    have hs : cs.size = ii.size := by simp [hq] at hi; omega
    have hrun : (Instr.storeAt ty (.pointer (some ⟨g, 0, none⟩)) (.agg cs)).run P W = .ok () (W.setRow g cs) := by
      simp [Instr.storeAt, Instr.sureAddr, storeVar, sizeOf, typeInfo, hq, Value.cells, hs, hst]
    simp only [ho, hx, hy, Sem.run_bind, hrun, Result.andThen_ok, Sem.run_pure]
    show K (a.put o.dst undef) _
    rw [hd]
    exact h _ (setRow_heap W g cur cs t (0, 0) hg) ⟨rfl, rfl, rfl, setRow_size W g cs, fun k hk => setRow_other W g k cs hk⟩
end
section
variable {P : Program} {md : Region.Mode} {ops : Array Oper} {o : Oper} {a : Act} {W : World} {Q : Exit → Act → World → Prop} {fuel : Nat} {listed : Array Bool}
theorem any_store (i : Nat) (ho : ops[i]? = some o) (hr : Region.ready md ops listed = [i]) (hw : Region.wanted o (yielded ops a.tmps) = true) (hd : o.dst = none) (ty : TypeId) (x y : Operand) (hop : o.op = .store ty x y) (g : Nat) (hx : a.eval x = .pointer (some ⟨g, 0, none⟩)) (cs : Array Value) (hy : a.eval y = .agg cs)
    (hi : (P.info? ty).map (·.size) = some cs.size) (cur : Array Value) (t : TypeId) (hg : W.heap[g]? = some (.cells cur t (0, 0))) (hfit : cs.size = cur.size) (h1 : cs.all (·.oneCell') = true)
    (h : ∀ w', w'.heap[g]? = some (.cells cs t (0, 0)) → Upd W w' g → wpAny P md ops Q fuel (listed.setIfInBounds i true) a w') : wpAny P md ops Q (fuel + 1) listed a W :=
  wpAny_ready hr (by simp) (AllReady.cons ho (fun K hK => step_of hw (W_store hd ty x y hop g hx cs hy hi cur t hg hfit h1 (fun w' h1 h2 => hK _ _ (h w' h1 h2)))) AllReady.nil)
end
end Go.Proofs.Ythcpfkkddfgamaa.Sha

namespace Go.Proofs.Ythcpfkkddfgamaa.Sha
open Go.RowKit Go.Proofs.YthcpfkkddfgamaaW.Hand Go.Proofs.YthcpfkkddfgamaaW.PrintWords Go.Proofs.YthcpfkkddfgamaaW.PrintLast Go.Proofs.YthcpfkkddfgamaaW.PrintMore Go.Proofs.Ythcpfkkddfgamaa.PF04A Go.Proofs.Ythcpfkkddfgamaa.Base Go.Proofs.Ythcpfkkddfgamaa.LF04A
set_option linter.unusedVariables false
set_option linter.unusedSimpArgs false
end Go.Proofs.Ythcpfkkddfgamaa.Sha

namespace Go.Proofs.Ythcpfkkddfgamaa.Sha
open Go.RowKit Go.Proofs.YthcpfkkddfgamaaW.Hand Go.Proofs.YthcpfkkddfgamaaW.PrintWords Go.Proofs.YthcpfkkddfgamaaW.PrintLast Go.Proofs.YthcpfkkddfgamaaW.PrintMore Go.Proofs.Ythcpfkkddfgamaa.PF04A Go.Proofs.Ythcpfkkddfgamaa.Base Go.Proofs.Ythcpfkkddfgamaa.LF04A
set_option linter.unusedVariables false
set_option linter.unusedSimpArgs false

end Go.Proofs.Ythcpfkkddfgamaa.Sha

namespace Go.Proofs.Ythcpfkkddfgamaa.Sha
open Go.RowKit Go.Proofs.YthcpfkkddfgamaaW.Hand Go.Proofs.YthcpfkkddfgamaaW.PrintWords Go.Proofs.YthcpfkkddfgamaaW.PrintLast Go.Proofs.YthcpfkkddfgamaaW.PrintMore Go.Proofs.Ythcpfkkddfgamaa.PF04A Go.Proofs.Ythcpfkkddfgamaa.Base Go.Proofs.Ythcpfkkddfgamaa.LF04A
set_option linter.unusedVariables false
set_option linter.unusedSimpArgs false

end Go.Proofs.Ythcpfkkddfgamaa.Sha

namespace Go.AnyFacts
open Go Go.RowKit Go.Proofs.YthcpfkkddfgamaaW.Hand Go.Proofs.YthcpfkkddfgamaaW.PrintWords Go.Proofs.YthcpfkkddfgamaaW.PrintLast Go.Proofs.YthcpfkkddfgamaaW.PrintMore Go.Proofs.Ythcpfkkddfgamaa.PF04A Go.Proofs.Ythcpfkkddfgamaa.Base Go.Proofs.Ythcpfkkddfgamaa.LF04A Go.Proofs.Ythcpfkkddfgamaa.Sha
set_option linter.unusedVariables false
set_option linter.unusedSimpArgs false

/-! ### a list of what the operations yield -/
def Stab (p : Value → World → Prop) : Prop := ∀ v w w', p v w → Below w.heap.size w w' → p v w'
def getS (ps : List (Value → World → Prop)) (i : Nat) : Value → World → Prop := ps.getD i (fun _ _ => True)
inductive AllStab : List (Value → World → Prop) → Prop
  | nil : AllStab []
  | cons {p ps} : Stab p → AllStab ps → AllStab (p :: ps)
theorem AllStab.spec {ps : List (Value → World → Prop)} (h : AllStab ps) : ∀ i v w w', getS ps i v w → Below w.heap.size w w' → getS ps i v w' := by
  induction h with
  | nil => intro i v w w' _ _; simp [getS]
  | @cons p ps h1 h2 ih =>
    intro i v w w' h3 h4
    cases i with
    | zero => exact h1 v w w' h3 h4
    | succ i => exact ih i v w w' h3 h4
theorem stab_val (x : Value) : Stab (fun v _ => v = x) := fun _ _ _ h _ => h
theorem stab_any : Stab (fun _ _ => True) := fun _ _ _ _ _ => trivial
theorem stab_row (n c : Nat) (cs : Array Value) (ty : TypeId) (m : Nat × Nat) : Stab (fun v w => ∃ g, v = .slice (some ⟨g, 0, none⟩) n c ∧ w.heap[g]? = some (.cells cs ty m)) :=
  fun v w w' ⟨g, h1, h2⟩ hb => ⟨g, h1, (hb.block g (Array.getElem?_eq_some_iff.1 h2).1).trans h2⟩
theorem stab_ptr (cs : Array Value) (ty : TypeId) (m : Nat × Nat) : Stab (fun v w => ∃ g, v = .pointer (some ⟨g, 0, none⟩) ∧ w.heap[g]? = some (.cells cs ty m)) :=
  fun v w w' ⟨g, h1, h2⟩ hb => ⟨g, h1, (hb.block g (Array.getElem?_eq_some_iff.1 h2).1).trans h2⟩
theorem stab_C {α : Type} (k : Kd α) (xs : List α) : Stab (fun v w => ∃ A c, v = .slice A xs.length c ∧ xs.length ≤ c ∧ Kd.C k w A xs.length xs) :=
  fun v w w' ⟨A, c, h1, h2, h3⟩ hb => ⟨A, c, h1, h2, Kd.C_below h3 hb⟩
inductive EachOp (F : Nat → Oper → Prop) : Nat → List Oper → Prop
  | nil {n} : EachOp F n []
  | cons {n o l} : F n o → EachOp F (n + 1) l → EachOp F n (o :: l)
theorem EachOp.spec {F : Nat → Oper → Prop} : ∀ {l : List Oper} {n : Nat}, EachOp F n l → ∀ i o, l[i]? = some o → F (n + i) o := by
  intro l n h
  induction h with
  | nil => intro i o h; simp at h
  | @cons n o l h1 h2 ih =>
    intro i o' h
    cases i with
    | zero => simp at h; subst h; exact h1
    | succ i => have := ih i o' (by simpa using h); rw [show n + (i + 1) = n + 1 + i by omega]; exact this
theorem EachOp.of {F : Nat → Oper → Prop} {ops : Array Oper} {m : Nat} (h : EachOp F 0 (ops.toList.take m)) : ∀ i o, i < m → ops[i]? = some o → F i o := fun i o hi ho => by
  have := h.spec i o (by rw [List.getElem?_take_of_lt hi]; simpa using ho)
  simpa using this
def dstB (ops : Array Oper) (m N : Nat) : Bool := (List.range m).all fun i => match ops[i]? with
  | some o => match o.dst with | some d => decide (d < N) | none => false
  | none => true
theorem dst_of {ops : Array Oper} {m N : Nat} (h : dstB ops m N = true) : ∀ i o, i < m → ops[i]? = some o → ∃ d, o.dst = some d ∧ d < N := by
  intro i o hi ho
  unfold dstB at h
  rw [List.all_eq_true] at h
  have := h i (by rw [List.mem_range]; exact hi)
  simp only [ho] at this
  cases hd : o.dst with
  | none => simp [hd] at this
  | some d => simp only [hd, decide_eq_true_eq] at this; exact ⟨d, rfl, this⟩
inductive EvalsTo (a : Act) : Nat → List Value → Prop
  | nil {n : Nat} : EvalsTo a n []
  | cons {n : Nat} {v : Value} {l : List Value} : a.eval (.tmp n) = v → EvalsTo a (n + 1) l → EvalsTo a n (v :: l)
theorem EvalsTo.spec {a : Act} : ∀ {l : List Value} {n : Nat}, EvalsTo a n l → ∀ i v, l[i]? = some v → a.eval (.tmp (n + i)) = v := by
  intro l n h
  induction h with
  | nil => intro i v h; simp at h
  | @cons n v l h1 h2 ih =>
    intro i v' h
    cases i with
    | zero => simp at h; subst h; exact h1
    | succ i => have := ih i v' (by simpa using h); rw [show (n + (i + 1) : Nat) = n + 1 + i from by rw [Nat.add_assoc, Nat.add_comm 1 i]]; exact this
theorem frame_ext {a : Act} {vs : List Value} {ds : List Deferred} (hs : a.tmps.size = vs.length) (hd : a.defers = ds) (h : EvalsTo a 0 vs) : a = { tmps := vs.toArray, defers := ds } := by
  obtain ⟨ts, dd⟩ := a
  simp only at hs hd h
  subst hd
  congr 1
  apply Array.ext_getElem?
  intro i
  rcases Nat.lt_or_ge i vs.length with hi | hi
  · have := h.spec i vs[i] (by simp [hi])
    rw [Nat.zero_add] at this
    simp only [Act.eval, Array.getD_eq_getD_getElem?] at this
    have hit : i < ts.size := by omega
    rw [Array.getElem?_eq_getElem hit, Option.getD_some] at this
    rw [Array.getElem?_eq_getElem hit, this]
    simp [hi]
  · have hit : ts.size ≤ i := by omega
    rw [Array.getElem?_eq_none hit, Array.getElem?_eq_none (by simpa using hi)]

/-! ### one operation -/
section
variable {P : Program} {ops : Array Oper} {Q : Exit → Act → World → Prop} {t : Nat → Value → World → Prop} {fresh : Nat → Bool} {i : Nat} {o : Oper} {a : Act} {w : World}
theorem wanted_none (hg : o.guard = none) : Region.wanted o (yielded ops a.tmps) = true := by simp [Region.wanted, hg]
theorem wanted_yes {j d : Nat} {want : Bool} {oj : Oper} (hg : o.guard = some (j, want)) (hj : ops[j]? = some oj) (hd : oj.dst = some d) (he : a.eval (.tmp d) = .bool want) : Region.wanted o (yielded ops a.tmps) = true := by
  simp only [Act.eval, Array.getD_eq_getD_getElem?] at he
  cases h : a.tmps[d]? with
  | none => rw [h] at he; simp [undef] at he
  | some v =>
    rw [h, Option.getD_some] at he
    subst he
    simp [Region.wanted, hg, yielded, hj, hd, h]
theorem wanted_no {j d : Nat} {want got : Bool} {oj : Oper} (hg : o.guard = some (j, want)) (hj : ops[j]? = some oj) (hd : oj.dst = some d) (he : a.eval (.tmp d) = .bool got) (hne : got ≠ want) : Region.wanted o (yielded ops a.tmps) = false := by
  simp only [Act.eval, Array.getD_eq_getD_getElem?] at he
  cases h : a.tmps[d]? with
  | none => rw [h] at he; simp [undef] at he
  | some v =>
    rw [h, Option.getD_some] at he
    subst he
    simp [Region.wanted, hg, yielded, hj, hd, h, hne]
theorem A_value (hw : Region.wanted o (yielded ops a.tmps) = true) (v : Value) (hrun : (execOp a.eval o).run P w = .ok (.value v) w) (hv : t i v w) (hf : fresh i = false) : Step ops t fresh P Q i o a w := by
  unfold Step
  rw [if_pos hw]
  unfold Oper.wp
  rw [hrun, Oper.upon_value]
  exact ⟨v, rfl, Below.refl _ _, hv, fun h => by rw [hf] at h; cases h⟩
theorem A_skip (hw : Region.wanted o (yielded ops a.tmps) = false) (hv : t i undef w) (hf : fresh i = false) : Step ops t fresh P Q i o a w := by
  unfold Step
  rw [if_neg (by rw [hw]; decide)]
  exact ⟨hv, hf⟩
theorem A_call (hw : Region.wanted o (yielded ops a.tmps) = true) (f : FuncId) (xs : Array Operand) (ts : Array TypeId) (ho : o.op = .call { callee := .value (.func f), args := xs, argTypes := ts }) (args : Array Value) (hargs : xs.map a.eval = args) (hcf : (callFunc f (#[] ++ args ++ #[])).run P w = .ok (.enter f args) w)
    (hc : Calls P f args w fun e w' => ∃ v, e = .returned v ∧ Below w.heap.size w w' ∧ t i v w') (hf : fresh i = false) : Step ops t fresh P Q i o a w := by
  unfold Step
  rw [if_pos hw]
  refine W_call f args ?_ (hc.mono fun e w' ⟨v, h1, h2, h3⟩ => ⟨v, h1, v, rfl, h2, h3, fun h => by rw [hf] at h; cases h⟩)
  unfold execOp
  simp only [ho]
  subst hargs
  have e1 : (resolve a.eval { callee := .value (.func f), args := xs, argTypes := ts } o.type) = pure { target := .fn (.func f) #[], args := #[] ++ xs.map a.eval } := rfl
  rw [e1]
  simp only [Sem.run_bind, Sem.run_pure, Result.andThen_ok]
  exact hcf
theorem A_bslice (hw : Region.wanted o (yielded ops a.tmps) = true) (ty e : TypeId) (len : Nat) (parts : Array (Nat × Operand)) (ho : o.op = .buildSlice ty len parts) (hu : P.underlying ty = some (.slice e)) (vals : List (Nat × Value)) (hvals : (parts.map fun (i, x) => (i, a.eval x)).toList = vals) (cells : Array Value)
    (hc : Go.Program.builtSlice P e len vals = some cells)
    (h : ∀ g w', w'.heap[g]? = some (.cells cells e (0, 0)) → Below w.heap.size w w' → t i (.slice (some ⟨g, 0, none⟩) len len) w') : Step ops t fresh P Q i o a w := by
  unfold Step
  rw [if_pos hw]
  subst hvals
  exact W_bslice ty e len parts ho hu cells hc fun g w1 h1 h2 h3 h4 => ⟨_, rfl, h4, h g w1 h1 h4, fun _ => ⟨g, rfl, Nat.le_of_eq h2, by omega⟩⟩
theorem A_load (hw : Region.wanted o (yielded ops a.tmps) = true) (ty : TypeId) (x : Operand) (ho : o.op = .load ty x) (g : Nat) (hx : a.eval x = .pointer (some ⟨g, 0, none⟩)) (tt : TypeId) (cells : Array Value) (d : TypeDesc)
    (hg : w.heap[g]? = some (.cells cells tt (0, 0))) (hu : P.underlying ty = some d) (hd : (match d with | .struct _ | .array _ _ => true | _ => false) = true) (hi : (P.info? ty).map (·.size) = some cells.size)
    (hv : t i (.agg cells) w) (hf : fresh i = false) : Step ops t fresh P Q i o a w := by
  unfold Step
  rw [if_pos hw]
  exact wp_load_row ty x ho g hx tt cells (0, 0) d hg hu hd hi ⟨_, rfl, Below.refl _ _, hv, fun h => by rw [hf] at h; cases h⟩
theorem A_alloc (hw : Region.wanted o (yielded ops a.tmps) = true) (ty : TypeId) (ho : o.op = .alloc ty) (v : Value) (n : Nat) (hinfo : (P.info? ty).map (fun i => (i.zero, i.size)) = some (some v, n))
    (h : ∀ g w', w'.heap[g]? = some (.cells v.cells ty (0, 0)) → Below w.heap.size w w' → t i (.pointer (some ⟨g, 0, none⟩)) w') : Step ops t fresh P Q i o a w := by
  unfold Step
  rw [if_pos hw]
  cases hq : P.info? ty with
  | none => simp [hq] at hinfo
  | some ii =>
    simp [hq] at hinfo
    have hrun : (execOp a.eval o).run P w = .ok (.value (.pointer (some ⟨w.heap.size, 0, none⟩))) (w.alloc (.cells v.cells ty)) := by
      simp [execOp, ho, Instr.alloc, zeroValue, typeInfo, hq, hinfo.1, newVar, newRow, newObj]
      rfl
    unfold Oper.wp
    rw [hrun, Oper.upon_value]
    have hb : Below w.heap.size w (w.alloc (.cells v.cells ty)) := (Below.refl _ _).alloc (Nat.le_refl _) _
    exact ⟨_, rfl, hb, h w.heap.size _ (heap_alloc_new w _) hb, fun _ => ⟨w.heap.size, rfl, Nat.le_refl _, by show _ < (w.heap.push _).size; simp⟩⟩
theorem A_move (hw : Region.wanted o (yielded ops a.tmps) = true) (x : Operand) (ho : o.op = .move x) (v : Value) (hx : a.eval x = v) (hv : t i v w) (hf : fresh i = false) : Step ops t fresh P Q i o a w :=
  A_value hw v (by simp only [execOp, ho, hx, Sem.run_pure]) hv hf
theorem A_assign (hw : Region.wanted o (yielded ops a.tmps) = true) (x : Operand) (ho : o.op = .assign x) (v : Value) (hx : a.eval x = v) (hv : t i v w) (hf : fresh i = false) : Step ops t fresh P Q i o a w :=
  A_value hw v (by simp only [execOp, ho, hx, Sem.run_pure]) hv hf
theorem A_pick (hw : Region.wanted o (yielded ops a.tmps) = true) (c x y : Operand) (ho : o.op = .pick c x y) (b : Bool) (hc : a.eval c = .bool b) (v : Value) (hx : (if b = true then a.eval x else a.eval y) = v) (hv : t i v w) (hf : fresh i = false) : Step ops t fresh P Q i o a w := by
  refine A_value hw v ?_ hv hf
  subst hx
  cases b <;> simp [execOp, ho, hc, asBool]
theorem A_bin (hw : Region.wanted o (yielded ops a.tmps) = true) (op : BinOp) (ty : TypeId) (x y : Operand) (ty2 : TypeId) (ho : o.op = .binOp op ty x y ty2) (u v : Value) (hx : a.eval x = u) (hy : a.eval y = v) (r : Value)
    (hr : ((eqGuard op ty x y u v).run P w).andThen (fun _ w' => (binOp op ty u v).run P w') = .ok r w) (hv : t i r w) (hf : fresh i = false) : Step ops t fresh P Q i o a w := by
  refine A_value hw r ?_ hv hf
  cases hg : (eqGuard op ty x y u v).run P w with
  | halt e w' => rw [hg] at hr; cases hr
  | ok a1 w' =>
    rw [hg, Result.andThen_ok] at hr
    simp only [execOp, ho, hx, hy, Sem.run_bind, hg, Result.andThen_ok, hr, Sem.run_pure]
/-- '==' of two arrays of numbers. -/
theorem A_eqarr (hw : Region.wanted o (yielded ops a.tmps) = true) (ty e : TypeId) (n : Nat) (k : IntKind) (x y : Operand) (ty2 : TypeId) (ho : o.op = .binOp .eql ty x y ty2) (ht : P.underlying ty = some (.array n e)) (he : P.underlying e = some (.int k)) (hsz : (P.info? e).map (·.size) = some 1) (hm : P.eqGuardType P.depth ty = false)
    (xs ys : List Int) (hx : a.eval x = .agg (arr k xs)) (hy : a.eval y = .agg (arr k ys)) (hlx : xs.length = n) (hly : ys.length = n) (b : Bool) (hb : decide (xs = ys) = b) (hv : t i (.bool b) w) (hf : fresh i = false) : Step ops t fresh P Q i o a w := by
  refine A_value hw (.bool b) ?_ hv hf
  have h1 : (binOp .eql ty (.agg (arr k xs)) (.agg (arr k ys))).run P w = .ok (.bool b) w := by
    have := run_equalIn_arr (P := P) w 9998 ty e n k ht he hsz xs ys hlx hly
    rw [hb] at this
    simp [binOp, Op.equal, Op.maxDepth, this]
  simp [execOp, ho, hx, hy, run_eqGuard_agg w .eql ty x y (arr k xs) (arr k ys) hm, h1]
end
end Go.AnyFacts

namespace Go.Proofs.Ythcpfkkddfgamaa.Sha
open Go.RowKit Go.Proofs.YthcpfkkddfgamaaW.Hand Go.Proofs.YthcpfkkddfgamaaW.PrintWords Go.Proofs.YthcpfkkddfgamaaW.PrintLast Go.Proofs.YthcpfkkddfgamaaW.PrintMore Go.Proofs.Ythcpfkkddfgamaa.PF04A Go.Proofs.Ythcpfkkddfgamaa.Base Go.Proofs.Ythcpfkkddfgamaa.LF04A
set_option linter.unusedVariables false
set_option linter.unusedSimpArgs false
end Go.Proofs.Ythcpfkkddfgamaa.Sha

namespace Go.Proofs.Ythcpfkkddfgamaa.Sha
open Go.AnyFacts Go.RowKit Go.Proofs.YthcpfkkddfgamaaW.Hand Go.Proofs.YthcpfkkddfgamaaW.PrintWords Go.Proofs.YthcpfkkddfgamaaW.PrintLast Go.Proofs.YthcpfkkddfgamaaW.PrintMore Go.Proofs.Ythcpfkkddfgamaa.PF04A Go.Proofs.Ythcpfkkddfgamaa.Base Go.Proofs.Ythcpfkkddfgamaa.LF04A
set_option linter.unusedVariables false
set_option linter.unusedSimpArgs false
end Go.Proofs.Ythcpfkkddfgamaa.Sha

namespace Go.AnyFacts
open Go Go.RowKit Go.Proofs.YthcpfkkddfgamaaW.Hand Go.Proofs.YthcpfkkddfgamaaW.PrintWords Go.Proofs.YthcpfkkddfgamaaW.PrintLast Go.Proofs.YthcpfkkddfgamaaW.PrintMore Go.Proofs.Ythcpfkkddfgamaa.PF04A Go.Proofs.Ythcpfkkddfgamaa.Base Go.Proofs.Ythcpfkkddfgamaa.LF04A Go.Proofs.Ythcpfkkddfgamaa.Sha
set_option linter.unusedVariables false
set_option linter.unusedSimpArgs false
section
variable {P : Program} {ops : Array Oper} {Q : Exit → Act → World → Prop} {t : Nat → Value → World → Prop} {fresh : Nat → Bool} {i : Nat} {o : Oper} {a : Act} {w : World}
/-- The whole of an array, as a slice. -/
theorem A_cutarr (hw : Region.wanted o (yielded ops a.tmps) = true) (ty e : TypeId) (n : Nat) (x : Operand) (ho : o.op = .slice ty x none none none) (ht : P.underlying ty = some (.array n e)) (hsz : (P.info? e).map (·.size) = some 1) (g : Nat) (hx : a.eval x = .pointer (some ⟨g, 0, none⟩))
    (hv : t i (.slice (some ⟨g, 0, none⟩) n n) w) (hf : fresh i = false) : Step ops t fresh P Q i o a w := by
  refine A_value hw _ ?_ hv hf
  cases hq : P.info? e with
  | none => simp [hq] at hsz
  | some ii =>
    have hs : ii.size = 1 := by simpa [hq] using hsz
    simp [execOp, ho, hx, Instr.sliceAt, Instr.sureAddr, Instr.sliceBounds, run_underlying ht, sizeOf, typeInfo, hq, Addr.add_lit]
theorem A_ixarr (hw : Region.wanted o (yielded ops a.tmps) = true) (ty e : TypeId) (n : Nat) (x y : Operand) (ho : o.op = .indexAddr ty x y) (ht : P.underlying ty = some (.array n e)) (hsz : (P.info? e).map (·.size) = some 1) (g : Nat) (hx : a.eval x = .pointer (some ⟨g, 0, none⟩)) (k : Nat) (hy : a.eval y = .int .i64 (k : Int)) (hk : k < n)
    (hv : t i (.pointer (some ⟨g, k, none⟩)) w) (hf : fresh i = false) : Step ops t fresh P Q i o a w := by
  refine A_value hw _ ?_ hv hf
  cases hq : P.info? e with
  | none => simp [hq] at hsz
  | some ii =>
    have hs : ii.size = 1 := by simpa [hq] using hsz
    simp [execOp, ho, hx, hy, Instr.indexAt, Instr.sureAddr, asIntOf, run_underlying ht, sizeOf, typeInfo, hq, hs, Addr.add_lit]
    omega
theorem A_loadcell (hw : Region.wanted o (yielded ops a.tmps) = true) (ty : TypeId) (x : Operand) (ho : o.op = .load ty x) (k : IntKind) (ht : P.underlying ty = some (.int k)) (ad : Addr) (hx : a.eval x = .pointer (some ad)) (v : Value) (hc : w.cell? ad = some v)
    (hv : t i v w) (hf : fresh i = false) : Step ops t fresh P Q i o a w := by
  refine A_value hw _ ?_ hv hf
  simp [execOp, ho, hx, Instr.loadAt, Instr.sureAddr, loadVar, isAgg, run_underlying ht, run_load, hc]
/-- '!=' of two arrays of numbers. -/
theorem A_nearr (hw : Region.wanted o (yielded ops a.tmps) = true) (ty e : TypeId) (n : Nat) (k : IntKind) (x y : Operand) (ty2 : TypeId) (ho : o.op = .binOp .neq ty x y ty2) (ht : P.underlying ty = some (.array n e)) (he : P.underlying e = some (.int k)) (hsz : (P.info? e).map (·.size) = some 1) (hm : P.eqGuardType P.depth ty = false)
    (xs ys : List Int) (hx : a.eval x = .agg (arr k xs)) (hy : a.eval y = .agg (arr k ys)) (hlx : xs.length = n) (hly : ys.length = n) (b : Bool) (hb : decide (xs = ys) = b) (hv : t i (.bool (!b)) w) (hf : fresh i = false) : Step ops t fresh P Q i o a w := by
  refine A_value hw (.bool (!b)) ?_ hv hf
  have h1 : (binOp .neq ty (.agg (arr k xs)) (.agg (arr k ys))).run P w = .ok (.bool (!b)) w := by
    have := run_equalIn_arr (P := P) w 9998 ty e n k ht he hsz xs ys hlx hly
    rw [hb] at this
    simp [binOp, Op.equal, Op.maxDepth, this]
  simp [execOp, ho, hx, hy, run_eqGuard_agg w .neq ty x y (arr k xs) (arr k ys) hm, h1]
end
end Go.AnyFacts

namespace Go.Proofs.Ythcpfkkddfgamaa.Sha
open Go.AnyFacts Go.RowKit Go.Proofs.YthcpfkkddfgamaaW.Hand Go.Proofs.YthcpfkkddfgamaaW.PrintWords Go.Proofs.YthcpfkkddfgamaaW.PrintLast Go.Proofs.YthcpfkkddfgamaaW.PrintMore Go.Proofs.Ythcpfkkddfgamaa.PF04A Go.Proofs.Ythcpfkkddfgamaa.Base Go.Proofs.Ythcpfkkddfgamaa.LF04A
set_option linter.unusedVariables false
set_option linter.unusedSimpArgs false
theorem flip8_inj {x y : Int} (hx : -9223372036854775808 ≤ x ∧ x ≤ 9223372036854775807) (hy : -9223372036854775808 ≤ y ∧ y ≤ 9223372036854775807) (h : flip8 x = flip8 y) : x = y := by
  rw [← flip8_add, ← flip8_add] at h
  simp only [IntKind.wrap_u64] at h
  omega
theorem num8_inj {x y : Int} (hx : -9223372036854775808 ≤ x ∧ x ≤ 9223372036854775807) (hy : -9223372036854775808 ≤ y ∧ y ≤ 9223372036854775807) (h : num8 x = num8 y) : x = y := by
  refine flip8_inj hx hy ?_
  have b1 := bits_u64 .xor (IntKind.u64.wrap x) 9223372036854775808
  have b2 := bits_u64 .xor (IntKind.u64.wrap y) 9223372036854775808
  have e1 := num_be (n := flip8 x) (s := 8) (by omega) b1.1 (by have := b1.2; show flip8 x < _; unfold flip8; omega)
  have e2 := num_be (n := flip8 y) (s := 8) (by omega) b2.1 (by have := b2.2; show flip8 y < _; unfold flip8; omega)
  rw [← e1, ← e2]
  exact congrArg num h
theorem label2_inj (s : ByteArray) {p q r t : Int} (hp : -9223372036854775808 ≤ p ∧ p ≤ 9223372036854775807) (hq : -9223372036854775808 ≤ q ∧ q ≤ 9223372036854775807) (hr : -9223372036854775808 ≤ r ∧ r ≤ 9223372036854775807) (ht : -9223372036854775808 ≤ t ∧ t ≤ 9223372036854775807) : (labelL s [p, q] = labelL s [r, t]) ↔ ([p, q] = [r, t]) := by
  constructor
  · intro h
    unfold labelL at h
    have h1 := List.append_cancel_left h
    simp only [List.map_cons, List.map_nil, List.flatten_cons, List.flatten_nil, List.append_nil] at h1
    obtain ⟨h2, h3⟩ := List.append_inj h1 (by rw [num8_length, num8_length])
    rw [num8_inj hp hr h2, num8_inj hq ht h3]
  · intro h
    rw [h]
theorem i64_of {x : Int} (h : (Lit.int .i64 x).wf = true) : -9223372036854775808 ≤ x ∧ x ≤ 9223372036854775807 := by
  have h' := h
  simp [Lit.wf] at h'
  exact ⟨h'.1, h'.2⟩
theorem below_of_drew {w w' : World} {B : Nat} (h : Below B w.drew w') : Below B w w' := (below_drew (Below.refl _ _)).trans h
end Go.Proofs.Ythcpfkkddfgamaa.Sha

