/- Hand-written walks and plain lemmas: what each Go function comes to (AnyF, AnyOps, AnyOps2, AnyG, KeyH). No condition. -/
import Derived.Test.YtdbfclfglpbpmaaPF25Fx
import Derived.Test.YtdbfclfglpbpmaaLF25F
import Derived.Orders
import Derived.Below
import Derived.Test.YtdbfclfglpbpmaaShaTwo
namespace Go.AnyFacts
open Go Go.RowKit

def blk : Value → Option Nat
  | .slice (some a) _ _ => some a.block
  | .pointer (some a) => some a.block
  | _ => none
def depOn (ops : Array Oper) (i j : Nat) : Bool := match ops[i]? with
  | some o => o.after.any fun e => Region.binds .any e && e.on == j
  | none => false
def reach (ops : Array Oper) : Nat → Nat → Nat → Bool
  | 0, _, _ => false
  | k + 1, i, j => depOn ops i j || (List.range ops.size).any fun l => depOn ops i l && reach ops k l j
/-- Edges lead back; the last n - m operations come up behind the first m; no two of the first m write one slot. -/
def plainB (ops : Array Oper) (m : Nat) : Bool :=
  decide (m ≤ ops.size) &&
  (List.range ops.size).all (fun i => match ops[i]? with | some o => o.after.all (fun e => !Region.binds .any e || decide (e.on < i)) | none => true) &&
  (List.range ops.size).all (fun i => decide (i < m) || (List.range m).all fun j => reach ops 5 i j) &&
  (List.range m).all (fun i => (List.range i).all fun j => match ops[i]?, ops[j]? with
    | some x, some y => match x.dst, y.dst with | some d, some e => d != e | _, _ => true
    | _, _ => true)
def slotOf (ops : Array Oper) (a : Act) (i : Nat) : Value := match ops[i]? with
  | some o => match o.dst with | some d => a.eval (.tmp d) | none => undef
  | none => undef
def writes (ops : Array Oper) (m t : Nat) : Bool := (List.range m).any fun i => match ops[i]? with | some o => o.dst == some t | none => false

theorem eval_put_same (a : Act) (d : Nat) (v : Value) (h : d < a.tmps.size) : (a.put (some d) v).eval (.tmp d) = v := by
  simp [Act.eval, Act.put, h]
theorem eval_put_ne (a : Act) (dst : Option Tmp) (t : Nat) (v : Value) (h : dst ≠ some t) : (a.put dst v).eval (.tmp t) = a.eval (.tmp t) :=
  Act.eval_put fun d hd e => by injection e with e; subst e; exact h hd
theorem size_put (a : Act) (dst : Option Tmp) (v : Value) : (a.put dst v).tmps.size = a.tmps.size := by
  cases dst <;> simp [Act.put]
theorem defers_put (a : Act) (dst : Option Tmp) (v : Value) : (a.put dst v).defers = a.defers := by cases dst <;> rfl

theorem count_set : ∀ (l : List Bool) (i : Nat), l[i]? = some false → (l.set i true).count false + 1 = l.count false := by
  intro l
  induction l with
  | nil => intro i h; simp at h
  | cons b l ih =>
    intro i h
    cases i with
    | zero => simp at h; subst h; simp
    | succ i => simp at h; simp only [List.set_cons_succ, List.count_cons]; have := ih i h; omega
theorem count_pos : ∀ (l : List Bool) (i : Nat), l[i]? = some false → 0 < l.count false := by
  intro l i h
  have := count_set l i h
  omega

section
variable {P : Program} {ops : Array Oper} {Q : Exit → Act → World → Prop}
variable (ops) (m : Nat) (N : Nat) (t : Nat → Value → World → Prop) (fresh : Nat → Bool) (a0 : Act) (w0 : World)

/-- What holds of a frame and a world between: of those that did. -/
structure Held (did : Nat → Prop) (a : Act) (w : World) : Prop where
  size : a.tmps.size = N
  defers : a.defers = a0.defers
  kept : ∀ s, writes ops m s = false → a.eval (.tmp s) = a0.eval (.tmp s)
  below : Below w0.heap.size w0 w
  fact : ∀ i, i < m → did i → t i (slotOf ops a i) w
  new : ∀ i, i < m → did i → fresh i = true → ∃ g, blk (slotOf ops a i) = some g ∧ w0.heap.size ≤ g ∧ g < w.heap.size
  apart : ∀ i j, i < m → j < m → i ≠ j → did i → did j → fresh i = true → fresh j = true → blk (slotOf ops a i) ≠ blk (slotOf ops a j)

/-- What an operation has to bring about. -/
def Step (P : Program) (Q : Exit → Act → World → Prop) (i : Nat) (o : Oper) (a : Act) (w : World) : Prop :=
  if Region.wanted o (yielded ops a.tmps) = true then o.wp P a w (fun a' w' => ∃ v, a' = a.put o.dst v ∧ Below w.heap.size w w' ∧ t i v w' ∧ (fresh i = true → ∃ g, blk v = some g ∧ w.heap.size ≤ g ∧ g < w'.heap.size)) Q
  else t i undef w ∧ fresh i = false

theorem Held.step {did : Nat → Prop} {a : Act} {w : World} (h : Held ops m N t fresh a0 w0 did a w) (hst : ∀ i v w w', t i v w → Below w.heap.size w w' → t i v w')
    (hd : ∀ i j x y d, i < m → j < m → i ≠ j → ops[i]? = some x → ops[j]? = some y → x.dst = some d → y.dst ≠ some d)
    {i : Nat} {o : Oper} (hi : i < m) (ho : ops[i]? = some o) (hdst : ∃ d, o.dst = some d ∧ d < N) {v : Value} {w' : World} (hb : Below w.heap.size w w') (hv : t i v w') (hf : fresh i = true → ∃ g, blk v = some g ∧ w.heap.size ≤ g ∧ g < w'.heap.size) (hnd : ¬ did i) :
    Held ops m N t fresh a0 w0 (fun k => did k ∨ k = i) (a.put o.dst v) w' := by
  obtain ⟨d, hd1, hd2⟩ := hdst
  have hsame : slotOf ops (a.put o.dst v) i = v := by
    unfold slotOf
    simp only [ho, hd1]
    exact eval_put_same a d v (by rw [h.size]; exact hd2)
  have hother : ∀ k, k < m → k ≠ i → slotOf ops (a.put o.dst v) k = slotOf ops a k := by
    intro k hk hne
    unfold slotOf
    cases hok : ops[k]? with
    | none => rfl
    | some ok =>
      cases hdk : ok.dst with
      | none => simp only [hdk]
      | some e => simp only [hdk]; exact eval_put_ne a o.dst e v (by rw [hd1]; intro h'; injection h' with h'; subst h'; exact hd k i ok o d hk hi hne hok ho hdk hd1)
  refine ⟨by rw [size_put, h.size], by rw [defers_put, h.defers], fun s hs => ?_, ⟨hb.os.trans h.below.os, hb.tape.trans h.below.tape, hb.output.trans h.below.output, Nat.le_trans h.below.size hb.size, fun k hk => (hb.block k (Nat.lt_of_lt_of_le hk h.below.size)).trans (h.below.block k hk)⟩, fun k hk hdid => ?_, fun k hk hdid hfk => ?_, fun k j hk hj hne hdk hdj hfk hfj => ?_⟩
  · rw [eval_put_ne a o.dst s v ?_]
    · exact h.kept s hs
    · intro e
      unfold writes at hs
      rw [List.any_eq_false] at hs
      have := hs i (by rw [List.mem_range]; exact hi)
      simp [ho, e] at this
  · by_cases hki : k = i
    · subst hki; rw [hsame]; exact hv
    · rw [hother k hk hki]
      exact hst _ _ _ _ (h.fact k hk (hdid.resolve_right hki)) hb
  · by_cases hki : k = i
    · subst hki
      rw [hsame]
      obtain ⟨g, h1, h2, h3⟩ := hf hfk
      exact ⟨g, h1, Nat.le_trans h.below.size h2, h3⟩
    · rw [hother k hk hki]
      obtain ⟨g, h1, h2, h3⟩ := h.new k hk (hdid.resolve_right hki) hfk
      exact ⟨g, h1, h2, Nat.lt_of_lt_of_le h3 hb.size⟩
  · by_cases hki : k = i
    · subst hki
      rw [hsame, hother j hj (Ne.symm hne)]
      obtain ⟨g, h1, h2, h3⟩ := hf hfk
      obtain ⟨g', h1', h2', h3'⟩ := h.new j hj (hdj.resolve_right (Ne.symm hne)) hfj
      rw [h1, h1']
      intro e
      injection e with e
      omega
    · by_cases hji : j = i
      · subst hji
        rw [hsame, hother k hk hki]
        obtain ⟨g, h1, h2, h3⟩ := hf hfj
        obtain ⟨g', h1', h2', h3'⟩ := h.new k hk (hdk.resolve_right hki) hfk
        rw [h1, h1']
        intro e
        injection e with e
        omega
      · rw [hother k hk hki, hother j hj hji]
        exact h.apart k j hk hj hne (hdk.resolve_right hki) (hdj.resolve_right hji) hfk hfj

variable {ops m N t fresh a0 w0}

theorem plain_back (h : plainB ops m = true) {i : Nat} {o : Oper} (ho : ops[i]? = some o) : ∀ e ∈ o.after, Region.binds .any e = true → e.on < i := by
  unfold plainB at h
  simp only [Bool.and_eq_true, List.all_eq_true, List.mem_range] at h
  have := h.1.1.2 i (Array.getElem?_eq_some_iff.1 ho).1
  simp only [ho, Array.all_eq_true_iff_forall_mem, Bool.or_eq_true, Bool.not_eq_true', decide_eq_true_eq] at this
  intro e he hb
  rcases this e he with h1 | h1
  · rw [hb] at h1; cases h1
  · exact h1
theorem plain_le (h : plainB ops m = true) : m ≤ ops.size := by
  unfold plainB at h
  simp only [Bool.and_eq_true, decide_eq_true_eq] at h
  exact h.1.1.1
theorem plain_dst (h : plainB ops m = true) : ∀ i j x y d, i < m → j < m → i ≠ j → ops[i]? = some x → ops[j]? = some y → x.dst = some d → y.dst ≠ some d := by
  unfold plainB at h
  simp only [Bool.and_eq_true, List.all_eq_true, List.mem_range] at h
  intro i j x y d hi hj hne hx hy hd he
  rcases Nat.lt_or_ge j i with hlt | hge
  · have := h.2 i hi j hlt
    simp [hx, hy, hd, he] at this
  · have := h.2 j hj i (by omega)
    simp [hx, hy, hd, he] at this
theorem depOn_closed {listed : Array Bool} (hc : ∀ i o, ops[i]? = some o → listed.getD i false = true → ∀ e ∈ o.after, Region.binds .any e = true → listed.getD e.on false = true) {i j : Nat} (hi : listed.getD i false = true) (hd : depOn ops i j = true) : listed.getD j false = true := by
  unfold depOn at hd
  cases ho : ops[i]? with
  | none => simp [ho] at hd
  | some o =>
    simp only [ho] at hd
    obtain ⟨e, he, hb⟩ := Array.any_eq_true'.1 hd
    simp only [Bool.and_eq_true, beq_iff_eq] at hb
    rw [← hb.2]
    exact hc i o ho hi e he hb.1
theorem reach_closed {listed : Array Bool} (hc : ∀ i o, ops[i]? = some o → listed.getD i false = true → ∀ e ∈ o.after, Region.binds .any e = true → listed.getD e.on false = true) : ∀ (k i j : Nat), listed.getD i false = true → reach ops k i j = true → listed.getD j false = true := by
  intro k
  induction k with
  | zero => intro i j _ h; simp [reach] at h
  | succ k ih =>
    intro i j hi h
    simp only [reach, Bool.or_eq_true, List.any_eq_true, Bool.and_eq_true] at h
    rcases h with h | ⟨l, _, h1, h2⟩
    · exact depOn_closed hc hi h
    · exact ih l j (depOn_closed hc hi h1) h2
theorem reach_ready {listed : Array Bool} (hc : ∀ i o, ops[i]? = some o → listed.getD i false = true → ∀ e ∈ o.after, Region.binds .any e = true → listed.getD e.on false = true) {i : Nat} (hr : i ∈ Region.ready .any ops listed) : ∀ (k j : Nat), reach ops k i j = true → listed.getD j false = true := by
  intro k j h
  obtain ⟨_, o, ho, hall⟩ := mem_ready.1 hr
  have hdep : ∀ j, depOn ops i j = true → listed.getD j false = true := by
    intro j hd
    unfold depOn at hd
    simp only [ho] at hd
    obtain ⟨e, he, hb⟩ := Array.any_eq_true'.1 hd
    simp only [Bool.and_eq_true, beq_iff_eq] at hb
    rw [← hb.2]
    exact hall e he hb.1
  cases k with
  | zero => simp [reach] at h
  | succ k =>
    simp only [reach, Bool.or_eq_true, List.any_eq_true, Bool.and_eq_true] at h
    rcases h with h | ⟨l, _, h1, h2⟩
    · exact hdep j h
    · exact reach_closed hc k l j (hdep l h1) h2

theorem getD_flip {listed : Array Bool} {i : Nat} (h : i < listed.size) : listed.getD i true = listed.getD i false := by simp [h]

theorem wpAny_facts (hp : plainB ops m = true) (hst : ∀ i v w w', t i v w → Below w.heap.size w w' → t i v w')
    (hdst : ∀ i o, i < m → ops[i]? = some o → ∃ d, o.dst = some d ∧ d < N)
    (hop : ∀ i o, i < m → ops[i]? = some o → ∀ did a w, Held ops m N t fresh a0 w0 did a w → (∀ j, depOn ops i j = true → did j) → Step ops t fresh P Q i o a w)
    (hfin : ∀ a w, Held ops m N t fresh a0 w0 (fun _ => True) a w → wpAny P .any ops Q (ops.size - m) (Array.replicate m true ++ Array.replicate (ops.size - m) false) a w) :
    ∀ (fuel : Nat) (listed : Array Bool) (a : Act) (w : World), listed.size = ops.size → listed.toList.count false = fuel →
      (∀ i o, ops[i]? = some o → listed.getD i false = true → ∀ e ∈ o.after, Region.binds .any e = true → listed.getD e.on false = true) →
      (∀ i, m ≤ i → listed.getD i false = false) → Held ops m N t fresh a0 w0 (fun i => listed.getD i false = true) a w → wpAny P .any ops Q fuel listed a w := by
  intro fuel
  have hm := plain_le hp
  have prefixed : ∀ (listed : Array Bool) (a : Act) (w : World) (fuel : Nat), listed.size = ops.size → listed.toList.count false = fuel → (∀ i, m ≤ i → listed.getD i false = false) → Held ops m N t fresh a0 w0 (fun i => listed.getD i false = true) a w → (∀ i, i < m → listed.getD i false = true) → wpAny P .any ops Q fuel listed a w := by
    intro listed a w fuel hsz hct hbe hH hall
    have e : listed = Array.replicate m true ++ Array.replicate (ops.size - m) false := by
      apply Array.ext_getElem?
      intro i
      rcases Nat.lt_or_ge i listed.size with hi | hi
      · rcases Nat.lt_or_ge i m with him | him
        · have := hall i him
          rw [Array.getElem?_append_left (by simpa using him)]
          simp only [Array.getD_eq_getD_getElem?, hi, Array.getElem?_eq_getElem, Option.getD_some] at this
          simp [hi, him, this]
        · have := hbe i him
          rw [Array.getElem?_append_right (by simpa using him)]
          simp only [Array.getD_eq_getD_getElem?, hi, Array.getElem?_eq_getElem, Option.getD_some] at this
          rw [Array.getElem?_eq_getElem hi, this, Array.size_replicate, Array.getElem?_eq_getElem (by simp; omega)]
          simp
      · rw [Array.getElem?_eq_none hi, Array.getElem?_eq_none (by simp; omega)]
    have hf : fuel = ops.size - m := by
      rw [← hct, e]
      simp [List.count_replicate]
    rw [hf, e]
    refine hfin a w ⟨hH.size, hH.defers, hH.kept, hH.below, fun i hi _ => hH.fact i hi (hall i hi), fun i hi _ => hH.new i hi (hall i hi), fun i j hi hj hne _ _ => hH.apart i j hi hj hne (hall i hi) (hall j hj)⟩
  induction fuel with
  | zero =>
    intro listed a w hsz hct hcl hbe hH
    refine prefixed listed a w 0 hsz hct hbe hH fun i hi => ?_
    have hil : i < listed.size := by omega
    cases hb : listed[i] with
    | true => simp [hil, hb]
    | false =>
      have := count_pos listed.toList i (by simp [hil, hb])
      omega
  | succ fuel ih =>
    intro listed a w hsz hct hcl hbe hH
    by_cases hall : ∀ i, i < m → listed.getD i false = true
    · exact prefixed listed a w (fuel + 1) hsz hct hbe hH hall
    · have hex : ∃ i, i < m ∧ listed.getD i false = false := by
        apply Classical.byContradiction
        intro hn
        apply hall
        intro i hi
        cases hb : listed.getD i false with
        | true => rfl
        | false => exact absurd ⟨i, hi, hb⟩ hn
      -- the least of those that did not
      have hleast : ∃ i, i < m ∧ listed.getD i false = false ∧ ∀ j, j < i → listed.getD j false = true := by
        obtain ⟨i, hi, hb⟩ := hex
        induction i using Nat.strongRecOn with
        | ind i ihi =>
          by_cases hj : ∃ j, j < i ∧ listed.getD j false = false
          · obtain ⟨j, hji, hjb⟩ := hj
            exact ihi j hji (by omega) hjb
          · refine ⟨i, hi, hb, fun j hji => ?_⟩
            cases hbj : listed.getD j false with
            | true => rfl
            | false => exact absurd ⟨j, hji, hbj⟩ hj
      have hne : Region.ready .any ops listed ≠ [] := by
        obtain ⟨i, hi, hb, hlow⟩ := hleast
        have hlt : i < ops.size := by omega
        have hmem : i ∈ Region.ready .any ops listed := by
          rw [mem_ready]
          refine ⟨by rw [getD_flip (by omega)]; exact hb, ops[i], by simp [hlt], fun e he hbnd => hlow _ (plain_back hp (i := i) (o := ops[i]) (by simp [hlt]) e he hbnd)⟩
        intro h0
        rw [h0] at hmem
        cases hmem
      refine ⟨fun h0 => absurd h0 hne, fun i hir => ?_⟩
      obtain ⟨hun, o, ho, hall2⟩ := mem_ready.1 hir
      have hlt : i < ops.size := (Array.getElem?_eq_some_iff.1 ho).1
      have hunf : listed.getD i false = false := by rw [← getD_flip (by omega)]; exact hun
      have him : i < m := by
        apply Classical.byContradiction
        intro hge
        apply hall
        intro j hj
        have hcov : reach ops 5 i j = true := by
          have hp' := hp
          unfold plainB at hp'
          simp only [Bool.and_eq_true, List.all_eq_true, List.mem_range, Bool.or_eq_true, decide_eq_true_eq] at hp'
          rcases hp'.1.2 i hlt with h1 | h1
          · exact absurd h1 hge
          · exact h1 j hj
        exact reach_ready hcl hir 5 j hcov
      have hdep : ∀ j, depOn ops i j = true → listed.getD j false = true := by
        intro j hd
        unfold depOn at hd
        simp only [ho] at hd
        obtain ⟨e, he, hb⟩ := Array.any_eq_true'.1 hd
        simp only [Bool.and_eq_true, beq_iff_eq] at hb
        rw [← hb.2]
        exact hall2 e he hb.1
      have hs := hop i o him ho (fun i => listed.getD i false = true) a w hH hdep
      have next : ∀ v w', Below w.heap.size w w' → t i v w' → (fresh i = true → ∃ g, blk v = some g ∧ w.heap.size ≤ g ∧ g < w'.heap.size) → wpAny P .any ops Q fuel (listed.setIfInBounds i true) (a.put o.dst v) w' := by
        intro v w' hb hv hf
        have hH' := hH.step ops m N t fresh a0 w0 hst (plain_dst hp) him ho (hdst i o him ho) hb hv hf (by simp [hunf])
        have hset : ∀ k, (listed.setIfInBounds i true).getD k false = true → (listed.getD k false = true ∨ k = i) := by
          intro k hk
          by_cases hki : k = i
          · exact .inr hki
          · rw [getD_set_ne false (Ne.symm hki)] at hk
            exact .inl hk
        refine ih _ _ _ (by simpa using hsz) ?_ ?_ ?_ ⟨hH'.size, hH'.defers, hH'.kept, hH'.below, fun k hk hd => hH'.fact k hk (hset k hd), fun k hk hd => hH'.new k hk (hset k hd), fun k j hk hj hne hdk hdj => hH'.apart k j hk hj hne (hset k hdk) (hset j hdj)⟩
        · have := count_set listed.toList i (by
            have hil : i < listed.size := by omega
            simp only [Array.getD_eq_getD_getElem?, hil, Array.getElem?_eq_getElem, Option.getD_some] at hunf
            simp [hil, hunf])
          rw [Array.toList_setIfInBounds]
          omega
        · intro k ok hok hk e he hbnd
          by_cases hki : k = i
          · subst hki
            rw [ho] at hok
            injection hok with hok
            subst hok
            exact getD_set_true (hall2 e he hbnd)
          · rw [getD_set_ne false (Ne.symm hki)] at hk
            exact getD_set_true (hcl k ok hok hk e he hbnd)
        · intro k hk
          rw [getD_set_ne false (by omega)]
          exact hbe k hk
      unfold Step at hs
      unfold wpOp
      simp only [ho]
      by_cases hw : Region.wanted o (yielded ops a.tmps) = true
      · rw [if_pos hw] at hs
        rw [if_pos hw]
        refine .inl (Oper.wp_mono ?_ hs)
        rintro a' w' ⟨v, rfl, hb, hv, hf⟩
        exact next v w' hb hv hf
      · rw [if_neg hw] at hs
        rw [if_neg hw]
        exact next undef w (Below.refl _ _) hs.1 (fun h => by rw [hs.2] at h; cases h)

/-- A region that draws its order, told by what each operation yields. -/
theorem region_facts {id : Nat} {a : Act} {w : World} (hm : P.follows .mixedOrders = true) (t : Nat → Value → World → Prop) (fresh : Nat → Bool) (m : Nat)
    (hp : plainB ops m = true) (hst : ∀ i v w w', t i v w → Below w.heap.size w w' → t i v w')
    (hdst : ∀ i o, i < m → ops[i]? = some o → ∃ d, o.dst = some d ∧ d < a.tmps.size)
    (hop : ∀ i o, i < m → ops[i]? = some o → ∀ did a' w', Held ops m a.tmps.size t fresh a w.drew did a' w' → (∀ j, depOn ops i j = true → did j) → Step ops t fresh P Q i o a' w')
    (hfin : ∀ a' w', Held ops m a.tmps.size t fresh a w.drew (fun _ => True) a' w' → wpAny P .any ops Q (ops.size - m) (Array.replicate m true ++ Array.replicate (ops.size - m) false) a' w') :
    (Code.region id ops true).wp P Q a w := by
  refine wp_region_any hm ?_
  refine wpAny_facts (N := a.tmps.size) (a0 := a) (w0 := w.drew) hp hst hdst hop hfin ops.size _ a w.drew (by simp) (by simp) ?_ ?_ ?_
  · intro i o ho hi
    have hlt := (Array.getElem?_eq_some_iff.1 ho).1
    simp [hlt] at hi
  · intro i _
    by_cases hi : i < ops.size <;> simp [hi]
  · refine ⟨rfl, rfl, fun s _ => rfl, Below.refl _ _, fun i hi hd => ?_, fun i hi hd => ?_, fun i j hi hj hne hd => ?_⟩ <;>
    · have hlt : i < ops.size := Nat.lt_of_lt_of_le hi (plain_le hp)
      simp [hlt] at hd
end
end Go.AnyFacts

namespace Go.AnyFacts
open Go Go.RowKit Go.Proofs.YtdbfclfglpbpmaaW.Hand Go.Proofs.YtdbfclfglpbpmaaW.PrintWords Go.Proofs.YtdbfclfglpbpmaaW.PrintLast Go.Proofs.YtdbfclfglpbpmaaW.PrintMore Go.Proofs.Ytdbfclfglpbpmaa.PF25F Go.Proofs.Ytdbfclfglpbpmaa.Base Go.Proofs.Ytdbfclfglpbpmaa.LF25F Go.Proofs.Ytdbfclfglpbpmaa.Sha
set_option linter.unusedVariables false
set_option linter.unusedSimpArgs false

/-! ### a list of what the operations yield -/
def Stab (p : Value → World → Prop) : Prop := ∀ v w w', p v w → Below w.heap.size w w' → p v w'
def getS (ps : List (Value → World → Prop)) (i : Nat) : Value → World → Prop := ps.getD i (fun _ _ => True)
inductive AllStab : List (Value → World → Prop) → Prop
  | nil : AllStab []
  | cons {p ps} : Stab p → AllStab ps → AllStab (p :: ps)
theorem AllStab.spec {ps : List (Value → World → Prop)} (h : AllStab ps) : ∀ i v w w', getS ps i v w → Below w.heap.size w w' → getS ps i v w' := by
  induction h with
  | nil => intro i v w w' _ _; simp [getS]
  | @cons p ps h1 h2 ih =>
    intro i v w w' h3 h4
    cases i with
    | zero => exact h1 v w w' h3 h4
    | succ i => exact ih i v w w' h3 h4
theorem stab_val (x : Value) : Stab (fun v _ => v = x) := fun _ _ _ h _ => h
theorem stab_row (n c : Nat) (cs : Array Value) (ty : TypeId) (m : Nat × Nat) : Stab (fun v w => ∃ g, v = .slice (some ⟨g, 0, none⟩) n c ∧ w.heap[g]? = some (.cells cs ty m)) :=
  fun v w w' ⟨g, h1, h2⟩ hb => ⟨g, h1, (hb.block g (Array.getElem?_eq_some_iff.1 h2).1).trans h2⟩
inductive EachOp (F : Nat → Oper → Prop) : Nat → List Oper → Prop
  | nil {n} : EachOp F n []
  | cons {n o l} : F n o → EachOp F (n + 1) l → EachOp F n (o :: l)
theorem EachOp.spec {F : Nat → Oper → Prop} : ∀ {l : List Oper} {n : Nat}, EachOp F n l → ∀ i o, l[i]? = some o → F (n + i) o := by
  intro l n h
  induction h with
  | nil => intro i o h; simp at h
  | @cons n o l h1 h2 ih =>
    intro i o' h
    cases i with
    | zero => simp at h; subst h; exact h1
    | succ i => have := ih i o' (by simpa using h); rw [show n + (i + 1) = n + 1 + i by omega]; exact this
theorem EachOp.of {F : Nat → Oper → Prop} {ops : Array Oper} {m : Nat} (h : EachOp F 0 (ops.toList.take m)) : ∀ i o, i < m → ops[i]? = some o → F i o := fun i o hi ho => by
  have := h.spec i o (by rw [List.getElem?_take_of_lt hi]; simpa using ho)
  simpa using this
def dstB (ops : Array Oper) (m N : Nat) : Bool := (List.range m).all fun i => match ops[i]? with
  | some o => match o.dst with | some d => decide (d < N) | none => false
  | none => true
theorem dst_of {ops : Array Oper} {m N : Nat} (h : dstB ops m N = true) : ∀ i o, i < m → ops[i]? = some o → ∃ d, o.dst = some d ∧ d < N := by
  intro i o hi ho
  unfold dstB at h
  rw [List.all_eq_true] at h
  have := h i (by rw [List.mem_range]; exact hi)
  simp only [ho] at this
  cases hd : o.dst with
  | none => simp [hd] at this
  | some d => simp only [hd, decide_eq_true_eq] at this; exact ⟨d, rfl, this⟩
inductive EvalsTo (a : Act) : Nat → List Value → Prop
  | nil {n : Nat} : EvalsTo a n []
  | cons {n : Nat} {v : Value} {l : List Value} : a.eval (.tmp n) = v → EvalsTo a (n + 1) l → EvalsTo a n (v :: l)
theorem EvalsTo.spec {a : Act} : ∀ {l : List Value} {n : Nat}, EvalsTo a n l → ∀ i v, l[i]? = some v → a.eval (.tmp (n + i)) = v := by
  intro l n h
  induction h with
  | nil => intro i v h; simp at h
  | @cons n v l h1 h2 ih =>
    intro i v' h
    cases i with
    | zero => simp at h; subst h; exact h1
    | succ i => have := ih i v' (by simpa using h); rw [show (n + (i + 1) : Nat) = n + 1 + i from by rw [Nat.add_assoc, Nat.add_comm 1 i]]; exact this
/-! ### one operation -/
section
variable {P : Program} {ops : Array Oper} {Q : Exit → Act → World → Prop} {t : Nat → Value → World → Prop} {fresh : Nat → Bool} {i : Nat} {o : Oper} {a : Act} {w : World}
theorem wanted_none (hg : o.guard = none) : Region.wanted o (yielded ops a.tmps) = true := by simp [Region.wanted, hg]
theorem wanted_yes {j d : Nat} {want : Bool} {oj : Oper} (hg : o.guard = some (j, want)) (hj : ops[j]? = some oj) (hd : oj.dst = some d) (he : a.eval (.tmp d) = .bool want) : Region.wanted o (yielded ops a.tmps) = true := by
  simp only [Act.eval, Array.getD_eq_getD_getElem?] at he
  cases h : a.tmps[d]? with
  | none => rw [h] at he; simp [undef] at he
  | some v =>
    rw [h, Option.getD_some] at he
    subst he
    simp [Region.wanted, hg, yielded, hj, hd, h]
theorem A_value (hw : Region.wanted o (yielded ops a.tmps) = true) (v : Value) (hrun : (execOp a.eval o).run P w = .ok (.value v) w) (hv : t i v w) (hf : fresh i = false) : Step ops t fresh P Q i o a w := by
  unfold Step
  rw [if_pos hw]
  unfold Oper.wp
  rw [hrun, Oper.upon_value]
  exact ⟨v, rfl, Below.refl _ _, hv, fun h => by rw [hf] at h; cases h⟩
theorem A_call (hw : Region.wanted o (yielded ops a.tmps) = true) (f : FuncId) (xs : Array Operand) (ts : Array TypeId) (ho : o.op = .call { callee := .value (.func f), args := xs, argTypes := ts }) (args : Array Value) (hargs : xs.map a.eval = args) (hcf : (callFunc f (#[] ++ args ++ #[])).run P w = .ok (.enter f args) w)
    (hc : Calls P f args w fun e w' => ∃ v, e = .returned v ∧ Below w.heap.size w w' ∧ t i v w') (hf : fresh i = false) : Step ops t fresh P Q i o a w := by
  unfold Step
  rw [if_pos hw]
  refine W_call f args ?_ (hc.mono fun e w' ⟨v, h1, h2, h3⟩ => ⟨v, h1, v, rfl, h2, h3, fun h => by rw [hf] at h; cases h⟩)
  unfold execOp
  simp only [ho]
  subst hargs
  have e1 : (resolve a.eval { callee := .value (.func f), args := xs, argTypes := ts } o.type) = pure { target := .fn (.func f) #[], args := #[] ++ xs.map a.eval } := rfl
  rw [e1]
  simp only [Sem.run_bind, Sem.run_pure, Result.andThen_ok]
  exact hcf
theorem A_bslice (hw : Region.wanted o (yielded ops a.tmps) = true) (ty e : TypeId) (len : Nat) (parts : Array (Nat × Operand)) (ho : o.op = .buildSlice ty len parts) (hu : P.underlying ty = some (.slice e)) (vals : List (Nat × Value)) (hvals : (parts.map fun (i, x) => (i, a.eval x)).toList = vals) (cells : Array Value)
    (hc : Go.Program.builtSlice P e len vals = some cells)
    (h : ∀ g w', w'.heap[g]? = some (.cells cells e (0, 0)) → Below w.heap.size w w' → t i (.slice (some ⟨g, 0, none⟩) len len) w') : Step ops t fresh P Q i o a w := by
  unfold Step
  rw [if_pos hw]
  subst hvals
  exact W_bslice ty e len parts ho hu cells hc fun g w1 h1 h2 h3 h4 => ⟨_, rfl, h4, h g w1 h1 h4, fun _ => ⟨g, rfl, Nat.le_of_eq h2, by omega⟩⟩
theorem A_load (hw : Region.wanted o (yielded ops a.tmps) = true) (ty : TypeId) (x : Operand) (ho : o.op = .load ty x) (g : Nat) (hx : a.eval x = .pointer (some ⟨g, 0, none⟩)) (tt : TypeId) (cells : Array Value) (d : TypeDesc)
    (hg : w.heap[g]? = some (.cells cells tt (0, 0))) (hu : P.underlying ty = some d) (hd : (match d with | .struct _ | .array _ _ => true | _ => false) = true) (hi : (P.info? ty).map (·.size) = some cells.size)
    (hv : t i (.agg cells) w) (hf : fresh i = false) : Step ops t fresh P Q i o a w := by
  unfold Step
  rw [if_pos hw]
  exact wp_load_row ty x ho g hx tt cells (0, 0) d hg hu hd hi ⟨_, rfl, Below.refl _ _, hv, fun h => by rw [hf] at h; cases h⟩
theorem A_move (hw : Region.wanted o (yielded ops a.tmps) = true) (x : Operand) (ho : o.op = .move x) (v : Value) (hx : a.eval x = v) (hv : t i v w) (hf : fresh i = false) : Step ops t fresh P Q i o a w :=
  A_value hw v (by simp only [execOp, ho, hx, Sem.run_pure]) hv hf
theorem A_assign (hw : Region.wanted o (yielded ops a.tmps) = true) (x : Operand) (ho : o.op = .assign x) (v : Value) (hx : a.eval x = v) (hv : t i v w) (hf : fresh i = false) : Step ops t fresh P Q i o a w :=
  A_value hw v (by simp only [execOp, ho, hx, Sem.run_pure]) hv hf
theorem A_pick (hw : Region.wanted o (yielded ops a.tmps) = true) (c x y : Operand) (ho : o.op = .pick c x y) (b : Bool) (hc : a.eval c = .bool b) (v : Value) (hx : (if b = true then a.eval x else a.eval y) = v) (hv : t i v w) (hf : fresh i = false) : Step ops t fresh P Q i o a w := by
  refine A_value hw v ?_ hv hf
  subst hx
  cases b <;> simp [execOp, ho, hc, asBool]
theorem A_bin (hw : Region.wanted o (yielded ops a.tmps) = true) (op : BinOp) (ty : TypeId) (x y : Operand) (ty2 : TypeId) (ho : o.op = .binOp op ty x y ty2) (u v : Value) (hx : a.eval x = u) (hy : a.eval y = v) (r : Value)
    (hr : ((eqGuard op ty x y u v).run P w).andThen (fun _ w' => (binOp op ty u v).run P w') = .ok r w) (hv : t i r w) (hf : fresh i = false) : Step ops t fresh P Q i o a w := by
  refine A_value hw r ?_ hv hf
  cases hg : (eqGuard op ty x y u v).run P w with
  | halt e w' => rw [hg] at hr; cases hr
  | ok a1 w' =>
    rw [hg, Result.andThen_ok] at hr
    simp only [execOp, ho, hx, hy, Sem.run_bind, hg, Result.andThen_ok, hr, Sem.run_pure]
/-- '==' of two arrays of numbers. -/
theorem A_eqarr (hw : Region.wanted o (yielded ops a.tmps) = true) (ty e : TypeId) (n : Nat) (k : IntKind) (x y : Operand) (ty2 : TypeId) (ho : o.op = .binOp .eql ty x y ty2) (ht : P.underlying ty = some (.array n e)) (he : P.underlying e = some (.int k)) (hsz : (P.info? e).map (·.size) = some 1) (hm : P.eqGuardType P.depth ty = false)
    (xs ys : List Int) (hx : a.eval x = .agg (arr k xs)) (hy : a.eval y = .agg (arr k ys)) (hlx : xs.length = n) (hly : ys.length = n) (b : Bool) (hb : decide (xs = ys) = b) (hv : t i (.bool b) w) (hf : fresh i = false) : Step ops t fresh P Q i o a w := by
  refine A_value hw (.bool b) ?_ hv hf
  have h1 : (binOp .eql ty (.agg (arr k xs)) (.agg (arr k ys))).run P w = .ok (.bool b) w := by
    have := run_equalIn_arr (P := P) w 9998 ty e n k ht he hsz xs ys hlx hly
    rw [hb] at this
    simp [binOp, Op.equal, Op.maxDepth, this]
  simp [execOp, ho, hx, hy, run_eqGuard_agg w .eql ty x y (arr k xs) (arr k ys) hm, h1]
end
end Go.AnyFacts

namespace Go.AnyFacts
open Go Go.RowKit Go.Proofs.YtdbfclfglpbpmaaW.Hand Go.Proofs.YtdbfclfglpbpmaaW.PrintWords Go.Proofs.YtdbfclfglpbpmaaW.PrintLast Go.Proofs.YtdbfclfglpbpmaaW.PrintMore Go.Proofs.Ytdbfclfglpbpmaa.PF25F Go.Proofs.Ytdbfclfglpbpmaa.Base Go.Proofs.Ytdbfclfglpbpmaa.LF25F Go.Proofs.Ytdbfclfglpbpmaa.Sha
set_option linter.unusedVariables false
set_option linter.unusedSimpArgs false
section
variable {P : Program} {ops : Array Oper} {Q : Exit → Act → World → Prop} {t : Nat → Value → World → Prop} {fresh : Nat → Bool} {i : Nat} {o : Oper} {a : Act} {w : World}
end
end Go.AnyFacts

namespace Go.AnyFacts
open Go Go.RowKit
open Go.Proofs.YtdbfclfglpbpmaaW.Hand Go.Proofs.YtdbfclfglpbpmaaW.PrintWords Go.Proofs.YtdbfclfglpbpmaaW.PrintLast Go.Proofs.YtdbfclfglpbpmaaW.PrintMore Go.Proofs.Ytdbfclfglpbpmaa.PF25F Go.Proofs.Ytdbfclfglpbpmaa.Base Go.Proofs.Ytdbfclfglpbpmaa.LF25F Go.Proofs.Ytdbfclfglpbpmaa.Sha
set_option linter.unusedVariables false
set_option linter.unusedSimpArgs false
section
variable {P : Program} {ops : Array Oper} {Q : Exit → Act → World → Prop}
variable (ops) (N : Nat) (t : Nat → Value → World → Prop) (fresh : Nat → Bool) (tgt : Nat → Option Nat) (a0 : Act) (w0 : World)
/-- Where the value lies that an operation's fact speaks of: its own slot, or (a store) that of the block it writes to. -/
def slotTo (i : Nat) (a : Act) : Value := match tgt i with
  | some k => slotOf ops a k
  | none => slotOf ops a i
/-- w' is w but for block g. -/
structure But (w w' : World) (g : Nat) : Prop where
  os : w'.os = w.os
  tape : w'.tape = w.tape
  output : w'.output = w.output
  size : w'.heap.size = w.heap.size
  block : ∀ k, k ≠ g → w'.heap[k]? = w.heap[k]?
structure Held2 (did : Nat → Prop) (a : Act) (w : World) : Prop where
  size : a.tmps.size = N
  defers : a.defers = a0.defers
  kept : ∀ s, writes ops ops.size s = false → a.eval (.tmp s) = a0.eval (.tmp s)
  below : Below w0.heap.size w0 w
  fact : ∀ i, i < ops.size → did i → t i (slotTo ops tgt i a) w
  new : ∀ i, i < ops.size → did i → fresh i = true → ∃ g, blk (slotOf ops a i) = some g ∧ w0.heap.size ≤ g ∧ g < w.heap.size
  apart : ∀ i j, i < ops.size → j < ops.size → i ≠ j → did i → did j → fresh i = true → fresh j = true → blk (slotOf ops a i) ≠ blk (slotOf ops a j)
/-- What a store brings about. -/
def StepS (P : Program) (Q : Exit → Act → World → Prop) (i k : Nat) (o : Oper) (a : Act) (w : World) : Prop :=
  Region.wanted o (yielded ops a.tmps) = true ∧ o.wp P a w (fun a' w' => a' = a ∧ ∃ g, blk (slotOf ops a k) = some g ∧ But w w' g ∧ t i (slotOf ops a k) w' ∧ t k (slotOf ops a k) w') Q
/-- A fact that stays where another block is written to. -/
def Firm (i : Nat) : Prop := (∀ v w w', t i v w → t i v w') ∨ ((fresh i = true ∨ ∃ k, tgt i = some k ∧ fresh k = true) ∧ ∀ v w w' g, t i v w → blk v ≠ some g → (∀ k, k ≠ g → w'.heap[k]? = w.heap[k]?) → t i v w')
variable {ops N t fresh tgt a0 w0}
end
section
variable {P : Program} {ops : Array Oper} {Q : Exit → Act → World → Prop}
inductive AllFirm (t : Nat → Value → World → Prop) (fresh : Nat → Bool) (tgt : Nat → Option Nat) : Nat → Nat → Prop
  | nil {n} : AllFirm t fresh tgt n n
  | cons {i n} : Firm t fresh tgt i → AllFirm t fresh tgt (i + 1) n → AllFirm t fresh tgt i n
theorem AllFirm.spec {t : Nat → Value → World → Prop} {fresh : Nat → Bool} {tgt : Nat → Option Nat} : ∀ {i n : Nat}, AllFirm t fresh tgt i n → ∀ j, i ≤ j → j < n → Firm t fresh tgt j := by
  intro i n h
  induction h with
  | nil => intro j h1 h2; omega
  | @cons i n h1 h2 ih =>
    intro j h3 h4
    by_cases e : j = i
    · subst e; exact h1
    · exact ih j (by omega) h4
def F2 (ops : Array Oper) (N : Nat) (t : Nat → Value → World → Prop) (fresh : Nat → Bool) (tgt : Nat → Option Nat) (a0 : Act) (w0 : World) (P : Program) (Q : Exit → Act → World → Prop) (i : Nat) (o : Oper) : Prop :=
  (tgt i = none → ∀ did a' w', Held2 ops N t fresh tgt a0 w0 did a' w' → (∀ j, depOn ops i j = true → did j) → Step ops t fresh P Q i o a' w') ∧ ∀ k, tgt i = some k → ∀ did a' w', Held2 ops N t fresh tgt a0 w0 did a' w' → (∀ j, depOn ops i j = true → did j) → StepS ops t P Q i k o a' w'
theorem F2.store {N : Nat} {t : Nat → Value → World → Prop} {fresh : Nat → Bool} {tgt : Nat → Option Nat} {a0 : Act} {w0 : World} {i : Nat} {o : Oper} (k : Nat) (hn : tgt i = some k) (h : ∀ did a' w', Held2 ops N t fresh tgt a0 w0 did a' w' → (∀ j, depOn ops i j = true → did j) → StepS ops t P Q i k o a' w') : F2 ops N t fresh tgt a0 w0 P Q i o :=
  ⟨fun h0 => (by rw [hn] at h0; cases h0), fun k' hk => by rw [hn] at hk; injection hk with hk; subst hk; exact h⟩
/-- One cell is read. -/
theorem A_load1 {t : Nat → Value → World → Prop} {fresh : Nat → Bool} {i : Nat} {o : Oper} {a : Act} {w : World} (hw : Region.wanted o (yielded ops a.tmps) = true) (ty : TypeId) (x : Operand) (ho : o.op = .load ty x) (d : TypeDesc) (ht : P.underlying ty = some d) (hd : (match d with | .struct _ | .array _ _ => false | _ => true) = true) (ad : Addr) (hx : a.eval x = .pointer (some ad)) (v : Value) (hc : w.cell? ad = some v)
    (hv : t i v w) (hf : fresh i = false) : Step ops t fresh P Q i o a w := by
  refine A_value hw _ ?_ hv hf
  have : (isAgg ty).run P w = .ok false w := by
    cases d <;> first | (simp at hd; done) | simp [isAgg, run_underlying ht]
  simp [execOp, ho, hx, Instr.loadAt, Instr.sureAddr, loadVar, this, run_load, hc]
end
/-- A frame with some slots written. -/
def puts (a : Act) : List (Nat × Value) → Act
  | [] => a
  | (d, v) :: l => puts (a.put (some d) v) l
inductive EvalsL (a : Act) : List (Nat × Value) → Prop
  | nil : EvalsL a []
  | cons {d : Nat} {v : Value} {l : List (Nat × Value)} : a.eval (.tmp d) = v → EvalsL a l → EvalsL a ((d, v) :: l)
def keysB (ops : Array Oper) (m : Nat) (l : List (Nat × Value)) : Bool := (List.range m).all fun i => match ops[i]? with
  | some o => match o.dst with | some d => l.any fun x => x.1 == d | none => true
  | none => true
theorem puts_size (l : List (Nat × Value)) : ∀ a : Act, (puts a l).tmps.size = a.tmps.size := by
  induction l with
  | nil => intro a; rfl
  | cons x l ih => intro a; obtain ⟨d, v⟩ := x; show (puts (a.put (some d) v) l).tmps.size = _; rw [ih, size_put]
theorem puts_defers (l : List (Nat × Value)) : ∀ a : Act, (puts a l).defers = a.defers := by
  induction l with
  | nil => intro a; rfl
  | cons x l ih => intro a; obtain ⟨d, v⟩ := x; show (puts (a.put (some d) v) l).defers = _; rw [ih, defers_put]
theorem puts_eval (b : Act) (l : List (Nat × Value)) (h : EvalsL b l) : ∀ (a : Act) (s : Nat), a.tmps.size = b.tmps.size → (a.eval (.tmp s) = b.eval (.tmp s) ∨ ∃ v, (s, v) ∈ l) → (puts a l).eval (.tmp s) = b.eval (.tmp s) := by
  induction h with
  | nil =>
    intro a s _ hs
    rcases hs with hs | ⟨v, hv⟩
    · exact hs
    · cases hv
  | @cons d v l h1 h2 ih =>
    intro a s hz hs
    show (puts (a.put (some d) v) l).eval (.tmp s) = _
    refine ih _ s (by rw [size_put, hz]) ?_
    by_cases e : s = d
    · subst e
      left
      by_cases hlt : s < a.tmps.size
      · rw [eval_put_same a s v hlt, h1]
      · have n1 : (a.put (some s) v).eval (.tmp s) = undef := by simp [Act.eval, Act.put, hlt]
        have n2 : b.eval (.tmp s) = undef := by simp [Act.eval, show ¬ s < b.tmps.size by omega]
        rw [n1, n2]
    · rcases hs with hs | ⟨u, hu⟩
      · left
        rw [eval_put_ne a (some d) s v (by intro e'; injection e' with e'; exact e e'.symm)]
        exact hs
      · rcases List.mem_cons.1 hu with e' | e'
        · injection e' with e1 e2; exact absurd e1 e
        · exact .inr ⟨u, e'⟩
theorem act_eq {a b : Act} (hs : a.tmps.size = b.tmps.size) (hd : a.defers = b.defers) (h : ∀ s : Nat, a.eval (.tmp s) = b.eval (.tmp s)) : a = b := by
  obtain ⟨ts, ds⟩ := a
  obtain ⟨us, es⟩ := b
  simp only at hs hd h
  subst hd
  congr 1
  apply Array.ext hs
  intro i h1 h2
  have := h i
  simp only [Act.eval, Array.getD_eq_getD_getElem?] at this
  rw [Array.getElem?_eq_getElem h1, Array.getElem?_eq_getElem h2] at this
  exact this
theorem frame_puts {ops : Array Oper} {m : Nat} {a a0 : Act} (l : List (Nat × Value)) (hs : a.tmps.size = a0.tmps.size) (hd : a.defers = a0.defers) (hk : ∀ s, writes ops m s = false → a.eval (.tmp s) = a0.eval (.tmp s)) (hkeys : keysB ops m l = true) (hv : EvalsL a l) : a = puts a0 l := by
  refine act_eq (by rw [puts_size, hs]) (by rw [puts_defers, hd]) (fun s => ?_)
  refine (puts_eval a l hv a0 s hs.symm ?_).symm
  cases hw : writes ops m s with
  | false => exact .inl (hk s hw).symm
  | true =>
    right
    unfold writes at hw
    obtain ⟨i, hi, hx⟩ := List.any_eq_true.1 hw
    unfold keysB at hkeys
    rw [List.all_eq_true] at hkeys
    have := hkeys i hi
    cases ho : ops[i]? with
    | none => simp [ho] at hx
    | some o =>
      simp only [ho, beq_iff_eq] at hx this
      simp only [hx, List.any_eq_true, beq_iff_eq] at this
      obtain ⟨⟨d, v⟩, hm, e⟩ := this
      simp only at e
      subst e
      exact ⟨v, hm⟩
end Go.AnyFacts

namespace Go.Proofs.Ytdbfclfglpbpmaa.Sha
open Go.AnyFacts Go.RowKit Go.Proofs.YtdbfclfglpbpmaaW.Hand Go.Proofs.YtdbfclfglpbpmaaW.PrintWords Go.Proofs.YtdbfclfglpbpmaaW.PrintLast Go.Proofs.YtdbfclfglpbpmaaW.PrintMore Go.Proofs.Ytdbfclfglpbpmaa.PF25F Go.Proofs.Ytdbfclfglpbpmaa.Base Go.Proofs.Ytdbfclfglpbpmaa.LF25F
set_option linter.unusedVariables false
set_option linter.unusedSimpArgs false
end Go.Proofs.Ytdbfclfglpbpmaa.Sha

