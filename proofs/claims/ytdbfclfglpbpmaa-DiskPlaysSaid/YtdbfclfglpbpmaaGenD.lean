/- Hand-written walks and plain lemmas: what each Go function comes to (AnyF, ShaA, ShaB, ShaC, ShaD, ShaE, ShaF, ShaG, ShaH, ShaI, ShaP, ShaQ, ShaL, ShaR, ShaS, ShaO, ShaT, ShaU, KeyA, KeyB, KeyC, ShaV, ShaW, ShaX, ShaY, KeyD, KeyE, ShaZ, KeyG, AnyOps, AnyOps2, AnyG, KeyF, KeyH, KeyJ). No condition. -/
import Derived.Test.YtdbfclfglpbpmaaPF21x
import Derived.Test.YtdbfclfglpbpmaaLF21
import Derived.Orders
import Derived.Below
import Derived.Deep.MidRow
import Derived.Deep.RegionHeld3
import Derived.Deep.DrawnRows
import Derived.StillTailTactics
import Derived.BigRegion
import Derived.Laws.CopyOwn
import Derived.ChangeKeysEq
import Derived.Laws.StructEq
import Derived.Laws.MakeOwn
import Derived.Great.Walk
import Derived.Lib.FrozenHead2
import Derived.Laws.IdiomStrings
import Derived.Laws.Bits64
import Derived.Laws.BitsLemmas
namespace Go.AnyFacts
open Go Go.RowKit

def blk : Value → Option Nat
  | .slice (some a) _ _ => some a.block
  | .pointer (some a) => some a.block
  | _ => none
def depOn (ops : Array Oper) (i j : Nat) : Bool := match ops[i]? with
  | some o => o.after.any fun e => Region.binds .any e && e.on == j
  | none => false
def reach (ops : Array Oper) : Nat → Nat → Nat → Bool
  | 0, _, _ => false
  | k + 1, i, j => depOn ops i j || (List.range ops.size).any fun l => depOn ops i l && reach ops k l j
/-- Edges lead back; the last n - m operations come up behind the first m; no two of the first m write one slot. -/
def plainB (ops : Array Oper) (m : Nat) : Bool :=
  decide (m ≤ ops.size) &&
  (List.range ops.size).all (fun i => match ops[i]? with | some o => o.after.all (fun e => !Region.binds .any e || decide (e.on < i)) | none => true) &&
  (List.range ops.size).all (fun i => decide (i < m) || (List.range m).all fun j => reach ops 5 i j) &&
  (List.range m).all (fun i => (List.range i).all fun j => match ops[i]?, ops[j]? with
    | some x, some y => match x.dst, y.dst with | some d, some e => d != e | _, _ => true
    | _, _ => true)
def slotOf (ops : Array Oper) (a : Act) (i : Nat) : Value := match ops[i]? with
  | some o => match o.dst with | some d => a.eval (.tmp d) | none => undef
  | none => undef
def writes (ops : Array Oper) (m t : Nat) : Bool := (List.range m).any fun i => match ops[i]? with | some o => o.dst == some t | none => false

theorem eval_put_same (a : Act) (d : Nat) (v : Value) (h : d < a.tmps.size) : (a.put (some d) v).eval (.tmp d) = v := by
  simp [Act.eval, Act.put, h]
theorem eval_put_ne (a : Act) (dst : Option Tmp) (t : Nat) (v : Value) (h : dst ≠ some t) : (a.put dst v).eval (.tmp t) = a.eval (.tmp t) :=
  Act.eval_put fun d hd e => by injection e with e; subst e; exact h hd
theorem size_put (a : Act) (dst : Option Tmp) (v : Value) : (a.put dst v).tmps.size = a.tmps.size := by
  cases dst <;> simp [Act.put]
theorem defers_put (a : Act) (dst : Option Tmp) (v : Value) : (a.put dst v).defers = a.defers := by cases dst <;> rfl

theorem count_set : ∀ (l : List Bool) (i : Nat), l[i]? = some false → (l.set i true).count false + 1 = l.count false := by
  intro l
  induction l with
  | nil => intro i h; simp at h
  | cons b l ih =>
    intro i h
    cases i with
    | zero => simp at h; subst h; simp
    | succ i => simp at h; simp only [List.set_cons_succ, List.count_cons]; have := ih i h; omega
theorem count_pos : ∀ (l : List Bool) (i : Nat), l[i]? = some false → 0 < l.count false := by
  intro l i h
  have := count_set l i h
  omega

section
variable {P : Program} {ops : Array Oper} {Q : Exit → Act → World → Prop}
variable (ops) (m : Nat) (N : Nat) (t : Nat → Value → World → Prop) (fresh : Nat → Bool) (a0 : Act) (w0 : World)

/-- What holds of a frame and a world between: of those that did. -/
structure Held (did : Nat → Prop) (a : Act) (w : World) : Prop where
  size : a.tmps.size = N
  defers : a.defers = a0.defers
  kept : ∀ s, writes ops m s = false → a.eval (.tmp s) = a0.eval (.tmp s)
  below : Below w0.heap.size w0 w
  fact : ∀ i, i < m → did i → t i (slotOf ops a i) w
  new : ∀ i, i < m → did i → fresh i = true → ∃ g, blk (slotOf ops a i) = some g ∧ w0.heap.size ≤ g ∧ g < w.heap.size
  apart : ∀ i j, i < m → j < m → i ≠ j → did i → did j → fresh i = true → fresh j = true → blk (slotOf ops a i) ≠ blk (slotOf ops a j)

/-- What an operation has to bring about. -/
def Step (P : Program) (Q : Exit → Act → World → Prop) (i : Nat) (o : Oper) (a : Act) (w : World) : Prop :=
  if Region.wanted o (yielded ops a.tmps) = true then o.wp P a w (fun a' w' => ∃ v, a' = a.put o.dst v ∧ Below w.heap.size w w' ∧ t i v w' ∧ (fresh i = true → ∃ g, blk v = some g ∧ w.heap.size ≤ g ∧ g < w'.heap.size)) Q
  else t i undef w ∧ fresh i = false

theorem Held.step {did : Nat → Prop} {a : Act} {w : World} (h : Held ops m N t fresh a0 w0 did a w) (hst : ∀ i v w w', t i v w → Below w.heap.size w w' → t i v w')
    (hd : ∀ i j x y d, i < m → j < m → i ≠ j → ops[i]? = some x → ops[j]? = some y → x.dst = some d → y.dst ≠ some d)
    {i : Nat} {o : Oper} (hi : i < m) (ho : ops[i]? = some o) (hdst : ∃ d, o.dst = some d ∧ d < N) {v : Value} {w' : World} (hb : Below w.heap.size w w') (hv : t i v w') (hf : fresh i = true → ∃ g, blk v = some g ∧ w.heap.size ≤ g ∧ g < w'.heap.size) (hnd : ¬ did i) :
    Held ops m N t fresh a0 w0 (fun k => did k ∨ k = i) (a.put o.dst v) w' := by
  obtain ⟨d, hd1, hd2⟩ := hdst
  have hsame : slotOf ops (a.put o.dst v) i = v := by
    unfold slotOf
    simp only [ho, hd1]
    exact eval_put_same a d v (by rw [h.size]; exact hd2)
  have hother : ∀ k, k < m → k ≠ i → slotOf ops (a.put o.dst v) k = slotOf ops a k := by
    intro k hk hne
    unfold slotOf
    cases hok : ops[k]? with
    | none => rfl
    | some ok =>
      cases hdk : ok.dst with
      | none => simp only [hdk]
      | some e => simp only [hdk]; exact eval_put_ne a o.dst e v (by rw [hd1]; intro h'; injection h' with h'; subst h'; exact hd k i ok o d hk hi hne hok ho hdk hd1)
  refine ⟨by rw [size_put, h.size], by rw [defers_put, h.defers], fun s hs => ?_, ⟨hb.os.trans h.below.os, hb.tape.trans h.below.tape, hb.output.trans h.below.output, Nat.le_trans h.below.size hb.size, fun k hk => (hb.block k (Nat.lt_of_lt_of_le hk h.below.size)).trans (h.below.block k hk)⟩, fun k hk hdid => ?_, fun k hk hdid hfk => ?_, fun k j hk hj hne hdk hdj hfk hfj => ?_⟩
  · rw [eval_put_ne a o.dst s v ?_]
    · exact h.kept s hs
    · intro e
      unfold writes at hs
      rw [List.any_eq_false] at hs
      have := hs i (by rw [List.mem_range]; exact hi)
      simp [ho, e] at this
  · by_cases hki : k = i
    · subst hki; rw [hsame]; exact hv
    · rw [hother k hk hki]
      exact hst _ _ _ _ (h.fact k hk (hdid.resolve_right hki)) hb
  · by_cases hki : k = i
    · subst hki
      rw [hsame]
      obtain ⟨g, h1, h2, h3⟩ := hf hfk
      exact ⟨g, h1, Nat.le_trans h.below.size h2, h3⟩
    · rw [hother k hk hki]
      obtain ⟨g, h1, h2, h3⟩ := h.new k hk (hdid.resolve_right hki) hfk
      exact ⟨g, h1, h2, Nat.lt_of_lt_of_le h3 hb.size⟩
  · by_cases hki : k = i
    · subst hki
      rw [hsame, hother j hj (Ne.symm hne)]
      obtain ⟨g, h1, h2, h3⟩ := hf hfk
      obtain ⟨g', h1', h2', h3'⟩ := h.new j hj (hdj.resolve_right (Ne.symm hne)) hfj
      rw [h1, h1']
      intro e
      injection e with e
      omega
    · by_cases hji : j = i
      · subst hji
        rw [hsame, hother k hk hki]
        obtain ⟨g, h1, h2, h3⟩ := hf hfj
        obtain ⟨g', h1', h2', h3'⟩ := h.new k hk (hdk.resolve_right hki) hfk
        rw [h1, h1']
        intro e
        injection e with e
        omega
      · rw [hother k hk hki, hother j hj hji]
        exact h.apart k j hk hj hne (hdk.resolve_right hki) (hdj.resolve_right hji) hfk hfj

variable {ops m N t fresh a0 w0}

theorem plain_back (h : plainB ops m = true) {i : Nat} {o : Oper} (ho : ops[i]? = some o) : ∀ e ∈ o.after, Region.binds .any e = true → e.on < i := by
  unfold plainB at h
  simp only [Bool.and_eq_true, List.all_eq_true, List.mem_range] at h
  have := h.1.1.2 i (Array.getElem?_eq_some_iff.1 ho).1
  simp only [ho, Array.all_eq_true_iff_forall_mem, Bool.or_eq_true, Bool.not_eq_true', decide_eq_true_eq] at this
  intro e he hb
  rcases this e he with h1 | h1
  · rw [hb] at h1; cases h1
  · exact h1
theorem plain_le (h : plainB ops m = true) : m ≤ ops.size := by
  unfold plainB at h
  simp only [Bool.and_eq_true, decide_eq_true_eq] at h
  exact h.1.1.1
theorem plain_dst (h : plainB ops m = true) : ∀ i j x y d, i < m → j < m → i ≠ j → ops[i]? = some x → ops[j]? = some y → x.dst = some d → y.dst ≠ some d := by
  unfold plainB at h
  simp only [Bool.and_eq_true, List.all_eq_true, List.mem_range] at h
  intro i j x y d hi hj hne hx hy hd he
  rcases Nat.lt_or_ge j i with hlt | hge
  · have := h.2 i hi j hlt
    simp [hx, hy, hd, he] at this
  · have := h.2 j hj i (by omega)
    simp [hx, hy, hd, he] at this
theorem depOn_closed {listed : Array Bool} (hc : ∀ i o, ops[i]? = some o → listed.getD i false = true → ∀ e ∈ o.after, Region.binds .any e = true → listed.getD e.on false = true) {i j : Nat} (hi : listed.getD i false = true) (hd : depOn ops i j = true) : listed.getD j false = true := by
  unfold depOn at hd
  cases ho : ops[i]? with
  | none => simp [ho] at hd
  | some o =>
    simp only [ho] at hd
    obtain ⟨e, he, hb⟩ := Array.any_eq_true'.1 hd
    simp only [Bool.and_eq_true, beq_iff_eq] at hb
    rw [← hb.2]
    exact hc i o ho hi e he hb.1
theorem reach_closed {listed : Array Bool} (hc : ∀ i o, ops[i]? = some o → listed.getD i false = true → ∀ e ∈ o.after, Region.binds .any e = true → listed.getD e.on false = true) : ∀ (k i j : Nat), listed.getD i false = true → reach ops k i j = true → listed.getD j false = true := by
  intro k
  induction k with
  | zero => intro i j _ h; simp [reach] at h
  | succ k ih =>
    intro i j hi h
    simp only [reach, Bool.or_eq_true, List.any_eq_true, Bool.and_eq_true] at h
    rcases h with h | ⟨l, _, h1, h2⟩
    · exact depOn_closed hc hi h
    · exact ih l j (depOn_closed hc hi h1) h2
theorem reach_ready {listed : Array Bool} (hc : ∀ i o, ops[i]? = some o → listed.getD i false = true → ∀ e ∈ o.after, Region.binds .any e = true → listed.getD e.on false = true) {i : Nat} (hr : i ∈ Region.ready .any ops listed) : ∀ (k j : Nat), reach ops k i j = true → listed.getD j false = true := by
  intro k j h
  obtain ⟨_, o, ho, hall⟩ := mem_ready.1 hr
  have hdep : ∀ j, depOn ops i j = true → listed.getD j false = true := by
    intro j hd
    unfold depOn at hd
    simp only [ho] at hd
    obtain ⟨e, he, hb⟩ := Array.any_eq_true'.1 hd
    simp only [Bool.and_eq_true, beq_iff_eq] at hb
    rw [← hb.2]
    exact hall e he hb.1
  cases k with
  | zero => simp [reach] at h
  | succ k =>
    simp only [reach, Bool.or_eq_true, List.any_eq_true, Bool.and_eq_true] at h
    rcases h with h | ⟨l, _, h1, h2⟩
    · exact hdep j h
    · exact reach_closed hc k l j (hdep l h1) h2

theorem getD_flip {listed : Array Bool} {i : Nat} (h : i < listed.size) : listed.getD i true = listed.getD i false := by simp [h]

theorem wpAny_facts (hp : plainB ops m = true) (hst : ∀ i v w w', t i v w → Below w.heap.size w w' → t i v w')
    (hdst : ∀ i o, i < m → ops[i]? = some o → ∃ d, o.dst = some d ∧ d < N)
    (hop : ∀ i o, i < m → ops[i]? = some o → ∀ did a w, Held ops m N t fresh a0 w0 did a w → (∀ j, depOn ops i j = true → did j) → Step ops t fresh P Q i o a w)
    (hfin : ∀ a w, Held ops m N t fresh a0 w0 (fun _ => True) a w → wpAny P .any ops Q (ops.size - m) (Array.replicate m true ++ Array.replicate (ops.size - m) false) a w) :
    ∀ (fuel : Nat) (listed : Array Bool) (a : Act) (w : World), listed.size = ops.size → listed.toList.count false = fuel →
      (∀ i o, ops[i]? = some o → listed.getD i false = true → ∀ e ∈ o.after, Region.binds .any e = true → listed.getD e.on false = true) →
      (∀ i, m ≤ i → listed.getD i false = false) → Held ops m N t fresh a0 w0 (fun i => listed.getD i false = true) a w → wpAny P .any ops Q fuel listed a w := by
  intro fuel
  have hm := plain_le hp
  have prefixed : ∀ (listed : Array Bool) (a : Act) (w : World) (fuel : Nat), listed.size = ops.size → listed.toList.count false = fuel → (∀ i, m ≤ i → listed.getD i false = false) → Held ops m N t fresh a0 w0 (fun i => listed.getD i false = true) a w → (∀ i, i < m → listed.getD i false = true) → wpAny P .any ops Q fuel listed a w := by
    intro listed a w fuel hsz hct hbe hH hall
    have e : listed = Array.replicate m true ++ Array.replicate (ops.size - m) false := by
      apply Array.ext_getElem?
      intro i
      rcases Nat.lt_or_ge i listed.size with hi | hi
      · rcases Nat.lt_or_ge i m with him | him
        · have := hall i him
          rw [Array.getElem?_append_left (by simpa using him)]
          simp only [Array.getD_eq_getD_getElem?, hi, Array.getElem?_eq_getElem, Option.getD_some] at this
          simp [hi, him, this]
        · have := hbe i him
          rw [Array.getElem?_append_right (by simpa using him)]
          simp only [Array.getD_eq_getD_getElem?, hi, Array.getElem?_eq_getElem, Option.getD_some] at this
          rw [Array.getElem?_eq_getElem hi, this, Array.size_replicate, Array.getElem?_eq_getElem (by simp; omega)]
          simp
      · rw [Array.getElem?_eq_none hi, Array.getElem?_eq_none (by simp; omega)]
    have hf : fuel = ops.size - m := by
      rw [← hct, e]
      simp [List.count_replicate]
    rw [hf, e]
    refine hfin a w ⟨hH.size, hH.defers, hH.kept, hH.below, fun i hi _ => hH.fact i hi (hall i hi), fun i hi _ => hH.new i hi (hall i hi), fun i j hi hj hne _ _ => hH.apart i j hi hj hne (hall i hi) (hall j hj)⟩
  induction fuel with
  | zero =>
    intro listed a w hsz hct hcl hbe hH
    refine prefixed listed a w 0 hsz hct hbe hH fun i hi => ?_
    have hil : i < listed.size := by omega
    cases hb : listed[i] with
    | true => simp [hil, hb]
    | false =>
      have := count_pos listed.toList i (by simp [hil, hb])
      omega
  | succ fuel ih =>
    intro listed a w hsz hct hcl hbe hH
    by_cases hall : ∀ i, i < m → listed.getD i false = true
    · exact prefixed listed a w (fuel + 1) hsz hct hbe hH hall
    · have hex : ∃ i, i < m ∧ listed.getD i false = false := by
        apply Classical.byContradiction
        intro hn
        apply hall
        intro i hi
        cases hb : listed.getD i false with
        | true => rfl
        | false => exact absurd ⟨i, hi, hb⟩ hn
      -- the least of those that did not
      have hleast : ∃ i, i < m ∧ listed.getD i false = false ∧ ∀ j, j < i → listed.getD j false = true := by
        obtain ⟨i, hi, hb⟩ := hex
        induction i using Nat.strongRecOn with
        | ind i ihi =>
          by_cases hj : ∃ j, j < i ∧ listed.getD j false = false
          · obtain ⟨j, hji, hjb⟩ := hj
            exact ihi j hji (by omega) hjb
          · refine ⟨i, hi, hb, fun j hji => ?_⟩
            cases hbj : listed.getD j false with
            | true => rfl
            | false => exact absurd ⟨j, hji, hbj⟩ hj
      have hne : Region.ready .any ops listed ≠ [] := by
        obtain ⟨i, hi, hb, hlow⟩ := hleast
        have hlt : i < ops.size := by omega
        have hmem : i ∈ Region.ready .any ops listed := by
          rw [mem_ready]
          refine ⟨by rw [getD_flip (by omega)]; exact hb, ops[i], by simp [hlt], fun e he hbnd => hlow _ (plain_back hp (i := i) (o := ops[i]) (by simp [hlt]) e he hbnd)⟩
        intro h0
        rw [h0] at hmem
        cases hmem
      refine ⟨fun h0 => absurd h0 hne, fun i hir => ?_⟩
      obtain ⟨hun, o, ho, hall2⟩ := mem_ready.1 hir
      have hlt : i < ops.size := (Array.getElem?_eq_some_iff.1 ho).1
      have hunf : listed.getD i false = false := by rw [← getD_flip (by omega)]; exact hun
      have him : i < m := by
        apply Classical.byContradiction
        intro hge
        apply hall
        intro j hj
        have hcov : reach ops 5 i j = true := by
          have hp' := hp
          unfold plainB at hp'
          simp only [Bool.and_eq_true, List.all_eq_true, List.mem_range, Bool.or_eq_true, decide_eq_true_eq] at hp'
          rcases hp'.1.2 i hlt with h1 | h1
          · exact absurd h1 hge
          · exact h1 j hj
        exact reach_ready hcl hir 5 j hcov
      have hdep : ∀ j, depOn ops i j = true → listed.getD j false = true := by
        intro j hd
        unfold depOn at hd
        simp only [ho] at hd
        obtain ⟨e, he, hb⟩ := Array.any_eq_true'.1 hd
        simp only [Bool.and_eq_true, beq_iff_eq] at hb
        rw [← hb.2]
        exact hall2 e he hb.1
      have hs := hop i o him ho (fun i => listed.getD i false = true) a w hH hdep
      have next : ∀ v w', Below w.heap.size w w' → t i v w' → (fresh i = true → ∃ g, blk v = some g ∧ w.heap.size ≤ g ∧ g < w'.heap.size) → wpAny P .any ops Q fuel (listed.setIfInBounds i true) (a.put o.dst v) w' := by
        intro v w' hb hv hf
        have hH' := hH.step ops m N t fresh a0 w0 hst (plain_dst hp) him ho (hdst i o him ho) hb hv hf (by simp [hunf])
        have hset : ∀ k, (listed.setIfInBounds i true).getD k false = true → (listed.getD k false = true ∨ k = i) := by
          intro k hk
          by_cases hki : k = i
          · exact .inr hki
          · rw [getD_set_ne false (Ne.symm hki)] at hk
            exact .inl hk
        refine ih _ _ _ (by simpa using hsz) ?_ ?_ ?_ ⟨hH'.size, hH'.defers, hH'.kept, hH'.below, fun k hk hd => hH'.fact k hk (hset k hd), fun k hk hd => hH'.new k hk (hset k hd), fun k j hk hj hne hdk hdj => hH'.apart k j hk hj hne (hset k hdk) (hset j hdj)⟩
        · have := count_set listed.toList i (by
            have hil : i < listed.size := by omega
            simp only [Array.getD_eq_getD_getElem?, hil, Array.getElem?_eq_getElem, Option.getD_some] at hunf
            simp [hil, hunf])
          rw [Array.toList_setIfInBounds]
          omega
        · intro k ok hok hk e he hbnd
          by_cases hki : k = i
          · subst hki
            rw [ho] at hok
            injection hok with hok
            subst hok
            exact getD_set_true (hall2 e he hbnd)
          · rw [getD_set_ne false (Ne.symm hki)] at hk
            exact getD_set_true (hcl k ok hok hk e he hbnd)
        · intro k hk
          rw [getD_set_ne false (by omega)]
          exact hbe k hk
      unfold Step at hs
      unfold wpOp
      simp only [ho]
      by_cases hw : Region.wanted o (yielded ops a.tmps) = true
      · rw [if_pos hw] at hs
        rw [if_pos hw]
        refine .inl (Oper.wp_mono ?_ hs)
        rintro a' w' ⟨v, rfl, hb, hv, hf⟩
        exact next v w' hb hv hf
      · rw [if_neg hw] at hs
        rw [if_neg hw]
        exact next undef w (Below.refl _ _) hs.1 (fun h => by rw [hs.2] at h; cases h)

/-- A region that draws its order, told by what each operation yields. -/
theorem region_facts {id : Nat} {a : Act} {w : World} (hm : P.follows .mixedOrders = true) (t : Nat → Value → World → Prop) (fresh : Nat → Bool) (m : Nat)
    (hp : plainB ops m = true) (hst : ∀ i v w w', t i v w → Below w.heap.size w w' → t i v w')
    (hdst : ∀ i o, i < m → ops[i]? = some o → ∃ d, o.dst = some d ∧ d < a.tmps.size)
    (hop : ∀ i o, i < m → ops[i]? = some o → ∀ did a' w', Held ops m a.tmps.size t fresh a w.drew did a' w' → (∀ j, depOn ops i j = true → did j) → Step ops t fresh P Q i o a' w')
    (hfin : ∀ a' w', Held ops m a.tmps.size t fresh a w.drew (fun _ => True) a' w' → wpAny P .any ops Q (ops.size - m) (Array.replicate m true ++ Array.replicate (ops.size - m) false) a' w') :
    (Code.region id ops true).wp P Q a w := by
  refine wp_region_any hm ?_
  refine wpAny_facts (N := a.tmps.size) (a0 := a) (w0 := w.drew) hp hst hdst hop hfin ops.size _ a w.drew (by simp) (by simp) ?_ ?_ ?_
  · intro i o ho hi
    have hlt := (Array.getElem?_eq_some_iff.1 ho).1
    simp [hlt] at hi
  · intro i _
    by_cases hi : i < ops.size <;> simp [hi]
  · refine ⟨rfl, rfl, fun s _ => rfl, Below.refl _ _, fun i hi hd => ?_, fun i hi hd => ?_, fun i j hi hj hne hd => ?_⟩ <;>
    · have hlt : i < ops.size := Nat.lt_of_lt_of_le hi (plain_le hp)
      simp [hlt] at hd
end
end Go.AnyFacts

namespace Go.Proofs.Ytdbfclfglpbpmaa.Sha
open Go.RowKit Go.Proofs.YtdbfclfglpbpmaaW.Hand Go.Proofs.YtdbfclfglpbpmaaW.PrintWords Go.Proofs.YtdbfclfglpbpmaaW.PrintLast Go.Proofs.YtdbfclfglpbpmaaW.PrintMore Go.Proofs.Ytdbfclfglpbpmaa.PF21
set_option linter.unusedVariables false
set_option linter.unusedSimpArgs false
/-! ### arrays as lists of numbers -/
def arr (k : IntKind) (xs : List Int) : Array Value := (xs.map (Value.int k)).toArray
theorem arr_size (k : IntKind) (xs : List Int) : (arr k xs).size = xs.length := by simp [arr]
theorem arr_one (k : IntKind) (xs : List Int) : (arr k xs).all (·.oneCell') = true := by
  refine Array.all_eq_true_iff_forall_mem.2 (fun v hv => ?_)
  simp [arr] at hv
  obtain ⟨x, _, rfl⟩ := hv
  rfl
theorem arr_get (k : IntKind) (xs : List Int) (i : Nat) (h : i < xs.length) : (arr k xs)[i]? = some (.int k (rd xs i)) := by
  unfold arr rd
  simp [h, List.getD_eq_getElem?_getD]
/-- w' is w but for what block g holds. -/
structure Upd (w w' : World) (g : Nat) : Prop where
  os : w'.os = w.os
  tape : w'.tape = w.tape
  output : w'.output = w.output
  size : w'.heap.size = w.heap.size
  block : ∀ k, k ≠ g → w'.heap[k]? = w.heap[k]?
theorem Upd.below {w w' w0 : World} {g B : Nat} (h : Upd w w' g) (hb : Below B w0 w) (hg : B ≤ g) : Below B w0 w' :=
  hb.trans ⟨h.os, h.tape, h.output, by rw [h.size]; exact Nat.le_refl _, fun k hk => h.block k (by omega)⟩
section
variable {P : Program} {ops : Array Oper} {rest : List Oper} {o : Oper} {a : Act} {W : World} {Q : Exit → Act → World → Prop}
theorem L_store (hgd : o.guard = none) (hd : o.dst = none) (ty : TypeId) (x y : Operand) (ho : o.op = .store ty x y) (g : Nat) (cells : Array Value) (hx : a.eval x = .pointer (some ⟨g, 0, none⟩)) (hy : a.eval y = .agg cells)
    (old : Array Value) (t : TypeId) (hg : W.heap[g]? = some (.cells old t (0, 0))) (hs : old.size = cells.size) (hi : (P.info? ty).map (·.size) = some cells.size) (h1 : cells.all (·.oneCell') = true)
    (h : ∀ w', w'.heap[g]? = some (.cells cells t (0, 0)) → Upd W w' g → wpList P ops Q rest a w') : wpList P ops Q (o :: rest) a W := by
  refine wpList_plain hgd fun K hK => wp_store_row ty x y ho g cells hx hy t old hg hi hs h1 (hK _ _ ?_)
  rw [hd]
  exact h _ (setRow_heap W g old cells t (0, 0) hg) ⟨rfl, rfl, rfl, setRow_size W g cells, fun k hk => setRow_other W g k cells hk⟩
theorem L_load (hgd : o.guard = none) (ty : TypeId) (x : Operand) (ho : o.op = .load ty x) (g : Nat) (hx : a.eval x = .pointer (some ⟨g, 0, none⟩)) (t : TypeId) (cells : Array Value) (d : TypeDesc)
    (hg : W.heap[g]? = some (.cells cells t (0, 0))) (hu : P.underlying ty = some d) (hd : (match d with | .struct _ | .array _ _ => true | _ => false) = true) (hi : (P.info? ty).map (·.size) = some cells.size)
    (h : wpList P ops Q rest (a.put o.dst (.agg cells)) W) : wpList P ops Q (o :: rest) a W :=
  wpList_plain hgd fun K hK => wp_load_row ty x ho g hx t cells (0, 0) d hg hu hd hi (hK _ _ h)
theorem L_alloc (hgd : o.guard = none) (ty : TypeId) (ho : o.op = .alloc ty) (v : Value) (n : Nat) (hinfo : (P.info? ty).map (fun i => (i.zero, i.size)) = some (some v, n))
    (h : ∀ g w1, w1.heap[g]? = some (.cells v.cells ty (0, 0)) → W.heap.size = g → w1.heap.size = g + 1 → Below W.heap.size W w1 → wpList P ops Q rest (a.put o.dst (.pointer (some ⟨g, 0, none⟩))) w1) : wpList P ops Q (o :: rest) a W := by
  cases hq : P.info? ty with
  | none => simp [hq] at hinfo
  | some i =>
    simp [hq] at hinfo
    refine Kd.event_run hgd (v := .pointer (some ⟨W.heap.size, 0, none⟩)) (w1 := W.alloc (.cells v.cells ty)) ?_ (h _ _ (heap_alloc_new W _) rfl (by show (W.heap.push _).size = _; simp) ((Below.refl _ _).alloc (Nat.le_refl _) _))
    simp [execOp, ho, Instr.alloc, zeroValue, typeInfo, hq, hinfo.1, newVar, newRow, newObj]
    rfl
end
/-! ### the plain functions -/
theorem C_cells {k : IntKind} {w : World} {A : Option Addr} {xs : List Int} (h : Kd.C (Kd.int k) w A xs.length xs) (hp : 0 < xs.length) : ∃ ad, A = some ad ∧ ∀ (j : Nat) (v : Value), (xs.map (Value.int k))[j]? = some v → w.cell? (ad.add j) = some v := by
  obtain ⟨ad, e, hc⟩ := h.2.2 hp
  refine ⟨ad, e, fun j v hv => ?_⟩
  have hj : j < xs.length := by have := (List.getElem?_eq_some_iff.1 hv).1; simpa using this
  obtain ⟨cs, h1, h2, h3⟩ := hc j xs[j] (List.getElem?_eq_getElem hj)
  have e2 : cs = [.int k xs[j]] := h2
  subst e2
  have := h3 0 (.int k xs[j]) rfl
  have hv' : Value.int k xs[j] = v := by simpa [hj] using hv
  rw [← hv']
  rwa [Nat.add_zero, show (Kd.int k).sz = 1 from rfl, Nat.mul_one] at this
end Go.Proofs.Ytdbfclfglpbpmaa.Sha

namespace Go.Proofs.Ytdbfclfglpbpmaa.Sha
open Go.RowKit Go.Proofs.YtdbfclfglpbpmaaW.Hand Go.Proofs.YtdbfclfglpbpmaaW.PrintWords Go.Proofs.YtdbfclfglpbpmaaW.PrintLast Go.Proofs.YtdbfclfglpbpmaaW.PrintMore Go.Proofs.Ytdbfclfglpbpmaa.PF21
set_option linter.unusedVariables false
set_option linter.unusedSimpArgs false
section
variable {P : Program} {ops : Array Oper} {rest : List Oper} {o : Oper} {a : Act} {W : World} {Q : Act → Prop}
end
section
variable {P : Program} {ops : Array Oper} {rest : List Oper} {o : Oper} {a : Act} {W : World} {Q : Exit → Act → World → Prop}
theorem L_box (hgd : o.guard = none) (ty : TypeId) (x : Operand) (ho : o.op = .box ty x) (v : Value) (hx : a.eval x = v)
    (h : ∀ g w1, w1.heap[g]? = some (.cells v.cells ty (0, 0)) → W.heap.size = g → w1.heap.size = g + 1 → Below W.heap.size W w1 → wpList P ops Q rest (a.put o.dst (.pointer (some ⟨g, 0, none⟩))) w1) : wpList P ops Q (o :: rest) a W := by
  refine Kd.event_run hgd (v := .pointer (some ⟨W.heap.size, 0, none⟩)) (w1 := W.alloc (.cells v.cells ty)) ?_ (h _ _ (heap_alloc_new W _) rfl (by show (W.heap.push _).size = _; simp) ((Below.refl _ _).alloc (Nat.le_refl _) _))
  simp [execOp, ho, hx, Instr.box, newVar, newRow, newObj]
  rfl
end
end Go.Proofs.Ytdbfclfglpbpmaa.Sha

namespace Go.Proofs.Ytdbfclfglpbpmaa.Sha
open Go.RowKit Go.Proofs.YtdbfclfglpbpmaaW.Hand Go.Proofs.YtdbfclfglpbpmaaW.PrintWords Go.Proofs.YtdbfclfglpbpmaaW.PrintLast Go.Proofs.YtdbfclfglpbpmaaW.PrintMore Go.Proofs.Ytdbfclfglpbpmaa.PF21
set_option linter.unusedVariables false
set_option linter.unusedSimpArgs false

end Go.Proofs.Ytdbfclfglpbpmaa.Sha

namespace Go.Proofs.Ytdbfclfglpbpmaa.Sha
open Go.RowKit Go.Proofs.YtdbfclfglpbpmaaW.Hand Go.Proofs.YtdbfclfglpbpmaaW.PrintWords Go.Proofs.YtdbfclfglpbpmaaW.PrintLast Go.Proofs.YtdbfclfglpbpmaaW.PrintMore Go.Proofs.Ytdbfclfglpbpmaa.PF21 Go.Proofs.Ytdbfclfglpbpmaa.Base Go.Proofs.Ytdbfclfglpbpmaa.LF21
set_option linter.unusedVariables false
set_option linter.unusedSimpArgs false

theorem C_cells0 {k : IntKind} {w : World} {A : Option Addr} {xs : List Int} (h : Kd.C (Kd.int k) w A xs.length xs) (hp : 0 < xs.length) : ∃ ad, A = some ad ∧ ∀ (j : Nat) (v : Value), (nums k xs)[j]? = some v → w.cell? (ad.add j) = some v := C_cells h hp
end Go.Proofs.Ytdbfclfglpbpmaa.Sha

namespace Go.Proofs.Ytdbfclfglpbpmaa.Sha
open Go.RowKit Go.Proofs.YtdbfclfglpbpmaaW.Hand Go.Proofs.YtdbfclfglpbpmaaW.PrintWords Go.Proofs.YtdbfclfglpbpmaaW.PrintLast Go.Proofs.YtdbfclfglpbpmaaW.PrintMore Go.Proofs.Ytdbfclfglpbpmaa.PF21 Go.Proofs.Ytdbfclfglpbpmaa.Base Go.Proofs.Ytdbfclfglpbpmaa.LF21
set_option linter.unusedVariables false
set_option linter.unusedSimpArgs false
section
variable {P : Program} {ops : Array Oper} {rest : List Oper} {o : Oper} {a : Act} {W : World} {Q : Exit → Act → World → Prop}
end
end Go.Proofs.Ytdbfclfglpbpmaa.Sha

namespace Go.Proofs.Ytdbfclfglpbpmaa.Sha
open Go.RowKit Go.Proofs.YtdbfclfglpbpmaaW.Hand Go.Proofs.YtdbfclfglpbpmaaW.PrintWords Go.Proofs.YtdbfclfglpbpmaaW.PrintLast Go.Proofs.YtdbfclfglpbpmaaW.PrintMore Go.Proofs.Ytdbfclfglpbpmaa.PF21 Go.Proofs.Ytdbfclfglpbpmaa.Base Go.Proofs.Ytdbfclfglpbpmaa.LF21
set_option linter.unusedVariables false
set_option linter.unusedSimpArgs false

theorem Upd.refl (w : World) (g : Nat) : Upd w w g := ⟨rfl, rfl, rfl, rfl, fun _ _ => rfl⟩
end Go.Proofs.Ytdbfclfglpbpmaa.Sha

namespace Go.Proofs.Ytdbfclfglpbpmaa.Sha
open Go.RowKit Go.Proofs.YtdbfclfglpbpmaaW.Hand Go.Proofs.YtdbfclfglpbpmaaW.PrintWords Go.Proofs.YtdbfclfglpbpmaaW.PrintLast Go.Proofs.YtdbfclfglpbpmaaW.PrintMore Go.Proofs.Ytdbfclfglpbpmaa.PF21 Go.Proofs.Ytdbfclfglpbpmaa.Base Go.Proofs.Ytdbfclfglpbpmaa.LF21
set_option linter.unusedVariables false
set_option linter.unusedSimpArgs false
end Go.Proofs.Ytdbfclfglpbpmaa.Sha

namespace Go.Proofs.Ytdbfclfglpbpmaa.Sha
open Go.RowKit Go.Proofs.YtdbfclfglpbpmaaW.Hand Go.Proofs.YtdbfclfglpbpmaaW.PrintWords Go.Proofs.YtdbfclfglpbpmaaW.PrintLast Go.Proofs.YtdbfclfglpbpmaaW.PrintMore Go.Proofs.Ytdbfclfglpbpmaa.PF21 Go.Proofs.Ytdbfclfglpbpmaa.Base Go.Proofs.Ytdbfclfglpbpmaa.LF21
set_option linter.unusedVariables false
set_option linter.unusedSimpArgs false
end Go.Proofs.Ytdbfclfglpbpmaa.Sha

namespace Go.Proofs.Ytdbfclfglpbpmaa.Sha
open Go.RowKit Go.Proofs.YtdbfclfglpbpmaaW.Hand Go.Proofs.YtdbfclfglpbpmaaW.PrintWords Go.Proofs.YtdbfclfglpbpmaaW.PrintLast Go.Proofs.YtdbfclfglpbpmaaW.PrintMore Go.Proofs.Ytdbfclfglpbpmaa.PF21 Go.Proofs.Ytdbfclfglpbpmaa.Base Go.Proofs.Ytdbfclfglpbpmaa.LF21
set_option linter.unusedVariables false
set_option linter.unusedSimpArgs false

/-! ### what stands behind a text -/
/-! ### a text eaten in two pieces -/
end Go.Proofs.Ytdbfclfglpbpmaa.Sha

namespace Go.Proofs.Ytdbfclfglpbpmaa.Sha
open Go.RowKit Go.Proofs.YtdbfclfglpbpmaaW.Hand Go.Proofs.YtdbfclfglpbpmaaW.PrintWords Go.Proofs.YtdbfclfglpbpmaaW.PrintLast Go.Proofs.YtdbfclfglpbpmaaW.PrintMore Go.Proofs.Ytdbfclfglpbpmaa.PF21 Go.Proofs.Ytdbfclfglpbpmaa.Base Go.Proofs.Ytdbfclfglpbpmaa.LF21
set_option linter.unusedVariables false
set_option linter.unusedSimpArgs false

/-! ### the reference agrees -/
end Go.Proofs.Ytdbfclfglpbpmaa.Sha

namespace Go.Proofs.Ytdbfclfglpbpmaa.Sha
open Go.RowKit Go.Proofs.YtdbfclfglpbpmaaW.Hand Go.Proofs.YtdbfclfglpbpmaaW.PrintWords Go.Proofs.YtdbfclfglpbpmaaW.PrintLast Go.Proofs.YtdbfclfglpbpmaaW.PrintMore Go.Proofs.Ytdbfclfglpbpmaa.PF21 Go.Proofs.Ytdbfclfglpbpmaa.Base Go.Proofs.Ytdbfclfglpbpmaa.LF21
set_option linter.unusedVariables false
set_option linter.unusedSimpArgs false

end Go.Proofs.Ytdbfclfglpbpmaa.Sha

namespace Go.Proofs.Ytdbfclfglpbpmaa.Sha
open Go.RowKit Go.Proofs.YtdbfclfglpbpmaaW.Hand Go.Proofs.YtdbfclfglpbpmaaW.PrintWords Go.Proofs.YtdbfclfglpbpmaaW.PrintLast Go.Proofs.YtdbfclfglpbpmaaW.PrintMore Go.Proofs.Ytdbfclfglpbpmaa.PF21 Go.Proofs.Ytdbfclfglpbpmaa.Base Go.Proofs.Ytdbfclfglpbpmaa.LF21
set_option linter.unusedVariables false
set_option linter.unusedSimpArgs false

theorem all_rd (xs ys : List Int) : ∀ (n : Nat), xs.length = n → ys.length = n → (List.range' 0 n 1).all (fun i => rd xs (i : Nat) == rd ys (i : Nat)) = decide (xs = ys) := by
  intro n hx hy
  rw [Bool.eq_iff_iff, List.all_eq_true, decide_eq_true_iff]
  constructor
  · intro h
    refine List.ext_getElem (by omega) (fun i h1 h2 => ?_)
    have := h i (by rw [List.mem_range'_1]; omega)
    rw [rd_lt h1, rd_lt h2] at this
    simpa using this
  · rintro rfl i _
    simp
/-- '==' of two arrays of whole numbers. -/
theorem run_equalIn_arr {P : Program} (w : World) (d : Nat) (t e : TypeId) (n : Nat) (k : IntKind) (ht : P.underlying t = some (.array n e)) (he : P.underlying e = some (.int k)) (hsz : (P.info? e).map (·.size) = some 1)
    (xs ys : List Int) (hx : xs.length = n) (hy : ys.length = n) : (Op.equalIn (d + 2) t (.agg (arr k xs)) (.agg (arr k ys))).run P w = .ok (decide (xs = ys)) w := by
  have hsz' : ∀ w, (sizeOf e).run P w = .ok 1 w := by
    intro w
    cases hq : P.info? e with
    | none => simp [hq] at hsz
    | some i =>
      have : i.size = 1 := by simpa [hq] using hsz
      simp [sizeOf, typeInfo, hq, this]
  rw [← all_rd xs ys n hx hy, Op.equalIn]
  simp only [Sem.run_bind, run_underlying ht, Result.andThen_ok, hsz', Std.Legacy.Range.forIn_eq_forIn_range', Std.Legacy.Range.size, Nat.sub_zero, Nat.add_sub_cancel, Nat.div_one]
  have hl : ∀ i ∈ List.range' 0 n 1, i < n := fun i hi => by simpa using (List.mem_range'_1.1 hi).2
  generalize List.range' 0 n 1 = l at hl ⊢
  induction l with
  | nil => simp
  | cons i l ih =>
    have hi : i < n := hl i (by simp)
    have px : (part e (arr k xs) (i * 1)).run P w = .ok (.int k (rd xs (i : Nat))) w := by
      have := arr_get k xs i (by omega)
      simp [part, isAgg, run_underlying he, this]
    have py : (part e (arr k ys) (i * 1)).run P w = .ok (.int k (rd ys (i : Nat))) w := by
      have := arr_get k ys i (by omega)
      simp [part, isAgg, run_underlying he, this]
    have pe : (Op.equalIn (d + 1) e (.int k (rd xs (i : Nat))) (.int k (rd ys (i : Nat)))).run P w = .ok (rd xs (i : Nat) == rd ys (i : Nat)) w := run_equalIn_int w d e k k _ _ he
    have ih' := ih (fun j hj => hl j (by simp [hj]))
    simp only [List.forIn_cons, Sem.run_bind, px, py, pe, Result.andThen_ok, List.all_cons]
    cases hb : (rd xs (i : Nat) == rd ys (i : Nat)) with
    | true => simpa using ih'
    | false => simp
end Go.Proofs.Ytdbfclfglpbpmaa.Sha

namespace Go.Proofs.Ytdbfclfglpbpmaa.Sha
open Go.RowKit Go.Proofs.YtdbfclfglpbpmaaW.Hand Go.Proofs.YtdbfclfglpbpmaaW.PrintWords Go.Proofs.YtdbfclfglpbpmaaW.PrintLast Go.Proofs.YtdbfclfglpbpmaaW.PrintMore Go.Proofs.Ytdbfclfglpbpmaa.PF21 Go.Proofs.Ytdbfclfglpbpmaa.Base Go.Proofs.Ytdbfclfglpbpmaa.LF21
set_option linter.unusedVariables false
set_option linter.unusedSimpArgs false

/-! ### hmac -/
end Go.Proofs.Ytdbfclfglpbpmaa.Sha

namespace Go.Proofs.Ytdbfclfglpbpmaa.Sha
open Go.RowKit Go.Proofs.YtdbfclfglpbpmaaW.Hand Go.Proofs.YtdbfclfglpbpmaaW.PrintWords Go.Proofs.YtdbfclfglpbpmaaW.PrintLast Go.Proofs.YtdbfclfglpbpmaaW.PrintMore Go.Proofs.Ytdbfclfglpbpmaa.PF21 Go.Proofs.Ytdbfclfglpbpmaa.Base Go.Proofs.Ytdbfclfglpbpmaa.LF21
set_option linter.unusedVariables false
set_option linter.unusedSimpArgs false

end Go.Proofs.Ytdbfclfglpbpmaa.Sha

namespace Go.Proofs.Ytdbfclfglpbpmaa.Sha
open Go.RowKit Go.Proofs.YtdbfclfglpbpmaaW.Hand Go.Proofs.YtdbfclfglpbpmaaW.PrintWords Go.Proofs.YtdbfclfglpbpmaaW.PrintLast Go.Proofs.YtdbfclfglpbpmaaW.PrintMore Go.Proofs.Ytdbfclfglpbpmaa.PF21 Go.Proofs.Ytdbfclfglpbpmaa.Base Go.Proofs.Ytdbfclfglpbpmaa.LF21
set_option linter.unusedVariables false
set_option linter.unusedSimpArgs false

end Go.Proofs.Ytdbfclfglpbpmaa.Sha

namespace Go.Proofs.Ytdbfclfglpbpmaa.Sha
open Go.RowKit Go.Proofs.YtdbfclfglpbpmaaW.Hand Go.Proofs.YtdbfclfglpbpmaaW.PrintWords Go.Proofs.YtdbfclfglpbpmaaW.PrintLast Go.Proofs.YtdbfclfglpbpmaaW.PrintMore Go.Proofs.Ytdbfclfglpbpmaa.PF21 Go.Proofs.Ytdbfclfglpbpmaa.Base Go.Proofs.Ytdbfclfglpbpmaa.LF21
set_option linter.unusedVariables false
set_option linter.unusedSimpArgs false

end Go.Proofs.Ytdbfclfglpbpmaa.Sha

namespace Go.Proofs.Ytdbfclfglpbpmaa.Sha
open Go.Great Go.RowKit Go.Proofs.YtdbfclfglpbpmaaW.Hand Go.Proofs.YtdbfclfglpbpmaaW.PrintWords Go.Proofs.YtdbfclfglpbpmaaW.PrintLast Go.Proofs.YtdbfclfglpbpmaaW.PrintMore Go.Proofs.Ytdbfclfglpbpmaa.PF21 Go.Proofs.Ytdbfclfglpbpmaa.Base Go.Proofs.Ytdbfclfglpbpmaa.LF21
set_option linter.unusedVariables false
set_option linter.unusedSimpArgs false

/-! ### literals of slices -/
theorem L_bslice {P : Program} {ops : Array Oper} {rest : List Oper} {o : Oper} {a : Act} {W : World} {Q : Exit → Act → World → Prop} (hgd : o.guard = none) (t e : TypeId) (len : Nat) (parts : Array (Nat × Operand)) (ho : o.op = .buildSlice t len parts) (hu : P.underlying t = some (.slice e)) (cells : Array Value)
    (hf : Go.Program.builtSlice P e len (parts.map fun (i, x) => (i, a.eval x)).toList = some cells)
    (h : ∀ g w1, w1.heap[g]? = some (.cells cells e (0, 0)) → W.heap.size = g → w1.heap.size = g + 1 → Below W.heap.size W w1 → wpList P ops Q rest (a.put o.dst (.slice (some ⟨g, 0, none⟩) len len)) w1) : wpList P ops Q (o :: rest) a W :=
  wpList_buildSliceTo hgd t e len parts ho W.heap.size rfl o.dst rfl hu cells hf (h W.heap.size _ (heap_alloc_new W _) rfl (by show (W.heap.push _).size = _; simp) ((Below.refl _ _).alloc (Nat.le_refl _) _))
end Go.Proofs.Ytdbfclfglpbpmaa.Sha

namespace Go.Proofs.Ytdbfclfglpbpmaa.Sha
open Go.RowKit Go.Proofs.YtdbfclfglpbpmaaW.Hand Go.Proofs.YtdbfclfglpbpmaaW.PrintWords Go.Proofs.YtdbfclfglpbpmaaW.PrintLast Go.Proofs.YtdbfclfglpbpmaaW.PrintMore Go.Proofs.Ytdbfclfglpbpmaa.PF21 Go.Proofs.Ytdbfclfglpbpmaa.Base Go.Proofs.Ytdbfclfglpbpmaa.LF21
set_option linter.unusedVariables false
set_option linter.unusedSimpArgs false

/-! ### bytes of a string: a row whose block bears a mark behind its last cell -/
theorem run_storeCells_atM (P : Program) (g o : Nat) (t : TypeId) (fz : Nat × Nat) : ∀ (vs : List Value) (i : Nat) (cur : Array Value) (w : World), w.heap[g]? = some (.cells cur t fz) → (fz.2 = 0 ∨ cur.size ≤ fz.1) → o + i + vs.length ≤ cur.size → (∀ v ∈ vs, v.oneCell' = true) →
    (storeCells ⟨g, o, none⟩ vs i).run P w = .ok () (w.setRow g (cur.toList.take (o + i) ++ vs ++ cur.toList.drop (o + i + vs.length)).toArray)
  | [], i, cur, w, hg, _, _, _ => by
    simp only [storeCells, List.append_nil, List.length_nil, Nat.add_zero, List.take_append_drop, Array.toArray_toList]
    rw [setRow_self w g cur t fz hg]
    rfl
  | v :: rest, i, cur, w, hg, hfz, hl, h1 => by
    have hi : o + i < cur.size := by simp at hl; omega
    have hadd : (⟨g, o, none⟩ : Addr).add i = ⟨g, o + i, none⟩ := by unfold Addr.add; split <;> simp_all
    have hcell : w.cell? ⟨g, o + i, none⟩ = some cur[o + i] := by simp [World.cell?, hg, hi]
    have hfro : w.frozen? ⟨g, o + i, none⟩ = false := by
      obtain ⟨lo, hi'⟩ := fz
      simp only [World.frozen?, hg, Bool.and_eq_false_iff, decide_eq_false_iff_not]
      simp only at hfz
      rcases hfz with h | h
      · right; omega
      · left; omega
    have hst : (store ((⟨g, o, none⟩ : Addr).add i) v).run P w = .ok () (w.setRow g (cur.setIfInBounds (o + i) v)) := by
      rw [hadd, run_store P w _ v _ (h1 v (by simp)), hcell]
      simp [hfro, setCell_eq_setRow w g (o + i) cur t fz v hg]
    have ih := run_storeCells_atM P g o t fz rest (i + 1) (cur.setIfInBounds (o + i) v) (w.setRow g (cur.setIfInBounds (o + i) v)) (setRow_heap w g cur _ t _ hg) (by simpa using hfz) (by simp at hl ⊢; omega) (fun x hx => h1 x (by simp [hx]))
    simp only [storeCells, Sem.run_bind, hst, Result.andThen_ok, ih, setRow_setRow]
    congr 3
    have e := list_seg_step cur.toList (o + i) v rest (by simp at hl ⊢; omega)
    simpa [Array.toList_setIfInBounds, Nat.add_assoc] using e
def QM (w : World) (base : Nat) (v : Value) (xs : List Int) : Prop :=
  ∃ g cap cur fz, v = .slice (some ⟨g, 0, none⟩) xs.length cap ∧ base ≤ g ∧ w.heap[g]? = some (.cells cur 5 fz) ∧ (fz.2 = 0 ∨ cur.size ≤ fz.1) ∧ xs.length ≤ cap ∧ cap ≤ maxLen ∧ cur.size = cap ∧ cur.toList.take xs.length = xs.map (Value.int .u8)
theorem QM.slice {w : World} {base : Nat} {v : Value} {xs : List Int} (h : QM w base v xs) : ∃ A c, v = .slice A xs.length c ∧ xs.length ≤ c := by
  obtain ⟨g, cap, cur, fz, rfl, _, _, _, h1, _⟩ := h
  exact ⟨_, _, rfl, h1⟩
theorem QM.below {w W : World} {base : Nat} {v : Value} {xs : List Int} (h : QM w base v xs) (hb : Below w.heap.size w W) : QM W base v xs := by
  obtain ⟨g, cap, cur, fz, rfl, hbg, hg, rest⟩ := h
  exact ⟨g, cap, cur, fz, rfl, hbg, (hb.block g (Array.getElem?_eq_some_iff.1 hg).1).trans hg, rest⟩
theorem QM.cells {w : World} {base g cap : Nat} {xs : List Int} (h : QM w base (.slice (some ⟨g, 0, none⟩) xs.length cap) xs) : ∀ (j : Nat) (u : Value), (xs.map (Value.int .u8))[j]? = some u → w.cell? ((⟨g, 0, none⟩ : Addr).add j) = some u := by
  intro j u hu
  obtain ⟨g', cap', cur, fz, e, _, hgg, _, _, _, _, htake⟩ := h
  simp only [Value.slice.injEq, Option.some.injEq, Addr.mk.injEq] at e
  obtain ⟨⟨rfl, _⟩, _, rfl⟩ := e
  have hadd : (⟨g, 0, none⟩ : Addr).add j = ⟨g, j, none⟩ := by unfold Addr.add; split <;> simp_all
  rw [hadd, cell_of_row w g j cur 5 fz hgg]
  rw [← htake, List.getElem?_take] at hu
  split at hu
  · simpa using hu
  · cases hu
theorem QM.C {w : World} {base : Nat} {A : Option Addr} {c : Nat} {xs : List Int} (h : QM w base (.slice A xs.length c) xs) : Kd.C (Kd.int .u8) w A xs.length xs := by
  obtain ⟨g, cap, cur, fz, e, hbg, hg, hfz, hle, hcm, hcs, htake⟩ := id h
  simp only [Value.slice.injEq] at e
  obtain ⟨rfl, _, rfl⟩ := e
  refine ⟨rfl, Nat.le_trans hle hcm, fun hp => ⟨_, rfl, fun j p hj => ⟨[.int .u8 p], rfl, rfl, fun i u hu => ?_⟩⟩⟩
  have hi : i = 0 := by
    have := (List.getElem?_eq_some_iff.1 hu).1
    simp at this
    omega
  subst hi
  have e' : Value.int .u8 p = u := by simpa using hu
  subst e'
  rw [show (Kd.int .u8).sz = 1 from rfl, Nat.mul_one, Nat.add_zero]
  exact h.cells j _ (by rw [List.getElem?_map, hj]; rfl)
theorem QM_run {P : Program} (w : World) (base : Nat) (t ty : TypeId) (ht : P.underlying t = some (.slice 5)) (hinfo : (P.info? 5).map (fun i => (i.zero, i.size, i.bytes)) = some (some (.int .u8 0), 1, 1))
    (v : Value) (xs ys : List Int) (A : Option Addr) (c : Nat) (h : QM w base v xs) (hC : Kd.C (Kd.int .u8) w A ys.length ys) (hp : 0 < ys.length) (hl : xs.length + ys.length ≤ 140737488355328) (hbase : base ≤ w.heap.size) :
    ∃ v' w', (Builtin.append_ #[t, t] ty #[v, .slice A ys.length c]).run P w = .ok v' w' ∧ QM w' base v' (xs ++ ys) ∧ w.grownBy w' v.ownBlock := by
  obtain ⟨i, hi, hzz⟩ := Option.map_eq_some_iff.1 hinfo
  simp only [Prod.mk.injEq] at hzz
  obtain ⟨hz, hsz, hby⟩ := hzz
  obtain ⟨a, rfl, hnews⟩ := C_cells0 hC hp
  obtain ⟨g, cap, cur, fz, rfl, hbg, hg, hfz, hnc, hcm, hcs, htake⟩ := id h
  have hlen : (xs ++ ys).length = xs.length + ys.length := List.length_append
  have hl1 : (nums .u8 ys).length = ys.length * i.size := by rw [nums_length, hsz, Nat.mul_one]
  have h1 : ∀ u ∈ nums .u8 ys, u.oneCell' = true := by intro u hu; simp [nums] at hu; obtain ⟨x, _, rfl⟩ := hu; rfl
  by_cases hroom : xs.length + ys.length ≤ cap
  · have hf := run_firstCells_some (P := P) w i.size ys.length a ys.length c (nums .u8 ys) hl1 hnews
    rw [hsz] at hf
    have hst := run_storeCells_atM P g xs.length 5 fz (nums .u8 ys) 0 cur w hg hfz (by rw [nums_length]; omega) h1
    simp only [Nat.add_zero] at hst
    have hr : (Builtin.append_ #[t, t] ty #[.slice (some ⟨g, 0, none⟩) xs.length cap, .slice (some a) ys.length c]).run P w = .ok (.slice (some ⟨g, 0, none⟩) (xs.length + ys.length) cap) (w.setRow g (cur.toList.take xs.length ++ nums .u8 ys ++ cur.toList.drop (xs.length + (nums .u8 ys).length)).toArray) := by
      simp [Builtin.append_, run_underlying ht, sizeOf, typeInfo, hi, Builtin.lenOf, hroom, hf, Addr.add_lit, hsz, hst]
    refine ⟨_, _, hr, ⟨g, cap, _, fz, by rw [hlen], hbg, setRow_heap w g cur _ 5 _ hg, ?_, by omega, hcm, ?_, ?_⟩, ⟨rfl, rfl, rfl, by simp, fun k _ hk => setRow_other w g k _ (fun e => hk (by simp [Value.ownBlock, e]))⟩⟩
    · rcases hfz with h | h
      · exact .inl h
      · right
        simp only [List.size_toArray, List.length_append, List.length_take, List.length_drop, Array.length_toList, nums_length]
        omega
    · simp only [List.size_toArray, List.length_append, List.length_take, List.length_drop, Array.length_toList, nums_length]
      omega
    · show ((cur.toList.take xs.length ++ nums .u8 ys ++ cur.toList.drop (xs.length + (nums .u8 ys).length))).take (xs ++ ys).length = _
      rw [htake, hlen, List.map_append]
      unfold nums
      rw [List.take_append_of_le_length (by simp), List.take_of_length_le (by simp)]
  · have hr := run_append_grow (P := P) w t ty 5 i (.int .u8 0) ht hi hz ⟨g, 0, none⟩ xs.length cap (xs.map (Value.int .u8)) (by rw [List.length_map, hsz, Nat.mul_one]) h.cells a ys.length c (nums .u8 ys) hl1 hnews (by omega) (by omega) (growslice_fits (by omega) (by rw [hby]; omega))
    have hge := grownCap_ge w (xs.length + ys.length) cap 5
    have hcm2 : grownCap w (xs.length + ys.length) cap 5 ≤ maxLen := grownCap_le_maxLen w (xs.length + ys.length) cap 5 (by simp only [maxLen]; omega)
    refine ⟨_, _, hr, ⟨w.heap.size, _, _, (0, 0), by rw [hlen], hbase, heap_alloc_new w.drew _, .inl rfl, by rw [hlen]; exact hge, hcm2, ?_, ?_⟩, ⟨rfl, rfl, rfl, by simp, fun k hk _ => heap_alloc_old w.drew _ hk⟩⟩
    · simp only [Array.size_append, List.size_toArray, size_zeroCells, List.length_map, nums_length]
      rw [show (Value.int .u8 0).cells.size = 1 from rfl]
      omega
    · simp only [Array.toList_append, hlen, List.map_append]
      unfold nums
      rw [List.take_append_of_le_length (by simp), List.take_of_length_le (by simp)]
section
variable {P : Program} {ops : Array Oper} {rest : List Oper} {o : Oper} {a : Act} {W : World} {Q : Exit → Act → World → Prop}
theorem L_appendM (hgd : o.guard = none) (s x : Operand) (t : TypeId) (ho : o.op = .call { callee := .builtin .append, args := #[s, x], argTypes := #[t, t] }) (ht : P.underlying t = some (.slice 5)) (hinfo : (P.info? 5).map (fun i => (i.zero, i.size, i.bytes)) = some (some (.int .u8 0), 1, 1))
    (base : Nat) (v : Value) (xs ys : List Int) (A : Option Addr) (c : Nat) (hs : a.eval s = v) (hx : a.eval x = .slice A ys.length c) (hQ : QM W base v xs) (hC : Kd.C (Kd.int .u8) W A ys.length ys) (hp : 0 < ys.length) (hl : xs.length + ys.length ≤ 140737488355328) (hbase : base ≤ W.heap.size)
    (h : ∀ v' w', QM w' base v' (xs ++ ys) → W.grownBy w' v.ownBlock → wpList P ops Q rest (a.put o.dst v') w') : wpList P ops Q (o :: rest) a W := by
  obtain ⟨v', w', hr, h1, h2⟩ := QM_run W base t o.type ht hinfo v xs ys A c hQ hC hp hl hbase
  refine wpList_plain hgd fun K hK => ?_
  unfold Oper.wp execOp
  simp only [ho, resolve, invoke, builtin, Sem.run_bind, Sem.run_pure, Result.andThen_ok, List.map_toArray, List.map_cons, List.map_nil, hs, hx, hr]
  exact hK _ _ (h v' w' h1 h2)
/-- The bytes of a string. -/
def bytesS (s : ByteArray) : List Int := s.data.toList.map (fun b => (b.toNat : Int))
theorem bytesS_length (s : ByteArray) : (bytesS s).length = s.size := by unfold bytesS; rw [List.length_map, Array.length_toList]; rfl
theorem bytesS_bytes (s : ByteArray) : Bytes (bytesS s) := by
  intro x hx
  unfold bytesS at hx
  obtain ⟨b, _, rfl⟩ := List.mem_map.1 hx
  have := b.toNat_lt
  omega
theorem L_conv (hgd : o.guard = none) (src dst : TypeId) (x : Operand) (ho : o.op = .convert src dst x) (s : ByteArray) (hx : a.eval x = .string s) (hs : P.underlying src = some .string) (hd : P.underlying dst = some (.slice 5)) (he : P.underlying 5 = some (.int .u8)) (hsm : s.size ≤ maxLen)
    (base : Nat) (hbase : base ≤ W.heap.size)
    (h : ∀ v' w', QM w' base v' (bytesS s) → Below W.heap.size W w' → wpList P ops Q rest (a.put o.dst v') w') : wpList P ops Q (o :: rest) a W := by
  have hr := run_bytes_of_string (P := P) W src dst 5 s hs hd he
  have hge := grownCap_ge W s.size 0 5
  have hsz : (bytesRow s (grownCap W s.size 0 5)).size = grownCap W s.size 0 5 := by
    unfold bytesRow
    simp only [Array.size_append, Array.size_map, Array.size_replicate]
    have : s.data.size = s.size := rfl
    omega
  refine Kd.event_run hgd (v := .slice (some ⟨W.heap.size, 0, none⟩) s.size (grownCap W s.size 0 5)) (w1 := W.drew.alloc (.cells (bytesRow s (grownCap W s.size 0 5)) 5 ((bytesRow s (grownCap W s.size 0 5)).size, (bytesRow s (grownCap W s.size 0 5)).size + 1))) ?_ (h _ _ ⟨W.heap.size, grownCap W s.size 0 5, _, _, by rw [bytesS_length], hbase, heap_alloc_new W.drew _, .inr (Nat.le_refl _), by rw [bytesS_length]; exact hge, grownCap_le_maxLen W s.size 0 5 hsm, hsz, ?_⟩ (((Below.refl _ _).drew).alloc (Nat.le_refl _) _))
  · simp [execOp, ho, hx, hr]
  · rw [bytesS_length]
    unfold bytesRow bytesS
    rw [Array.toList_append, Array.toList_map, List.take_append_of_le_length (by rw [List.length_map, Array.length_toList]; exact Nat.le_refl _), List.take_of_length_le (by rw [List.length_map, Array.length_toList]; exact Nat.le_refl _), List.map_map]
    rfl
end
end Go.Proofs.Ytdbfclfglpbpmaa.Sha

namespace Go.Proofs.Ytdbfclfglpbpmaa.Sha
open Go.RowKit Go.Proofs.YtdbfclfglpbpmaaW.Hand Go.Proofs.YtdbfclfglpbpmaaW.PrintWords Go.Proofs.YtdbfclfglpbpmaaW.PrintLast Go.Proofs.YtdbfclfglpbpmaaW.PrintMore Go.Proofs.Ytdbfclfglpbpmaa.PF21 Go.Proofs.Ytdbfclfglpbpmaa.Base Go.Proofs.Ytdbfclfglpbpmaa.LF21
set_option linter.unusedVariables false
set_option linter.unusedSimpArgs false

/-! ### label.Of -/
end Go.Proofs.Ytdbfclfglpbpmaa.Sha

namespace Go.Proofs.Ytdbfclfglpbpmaa.Sha
open Go.RowKit Go.Proofs.YtdbfclfglpbpmaaW.Hand Go.Proofs.YtdbfclfglpbpmaaW.PrintWords Go.Proofs.YtdbfclfglpbpmaaW.PrintLast Go.Proofs.YtdbfclfglpbpmaaW.PrintMore Go.Proofs.Ytdbfclfglpbpmaa.PF21 Go.Proofs.Ytdbfclfglpbpmaa.Base Go.Proofs.Ytdbfclfglpbpmaa.LF21
set_option linter.unusedVariables false
set_option linter.unusedSimpArgs false

/-! ### batonref04.Of: the plain law -/
end Go.Proofs.Ytdbfclfglpbpmaa.Sha

namespace Go.Proofs.Ytdbfclfglpbpmaa.Sha
open Go.RowKit Go.Proofs.YtdbfclfglpbpmaaW.Hand Go.Proofs.YtdbfclfglpbpmaaW.PrintWords Go.Proofs.YtdbfclfglpbpmaaW.PrintLast Go.Proofs.YtdbfclfglpbpmaaW.PrintMore Go.Proofs.Ytdbfclfglpbpmaa.PF21 Go.Proofs.Ytdbfclfglpbpmaa.Base Go.Proofs.Ytdbfclfglpbpmaa.LF21
set_option linter.unusedVariables false
set_option linter.unusedSimpArgs false

end Go.Proofs.Ytdbfclfglpbpmaa.Sha

namespace Go.Proofs.Ytdbfclfglpbpmaa.Sha
open Go.RowKit Go.Proofs.YtdbfclfglpbpmaaW.Hand Go.Proofs.YtdbfclfglpbpmaaW.PrintWords Go.Proofs.YtdbfclfglpbpmaaW.PrintLast Go.Proofs.YtdbfclfglpbpmaaW.PrintMore Go.Proofs.Ytdbfclfglpbpmaa.PF21 Go.Proofs.Ytdbfclfglpbpmaa.Base Go.Proofs.Ytdbfclfglpbpmaa.LF21
set_option linter.unusedVariables false
set_option linter.unusedSimpArgs false

/-! ### batonref03.Sum -/
end Go.Proofs.Ytdbfclfglpbpmaa.Sha

namespace Go.Proofs.Ytdbfclfglpbpmaa.Sha
open Go.RowKit Go.Proofs.YtdbfclfglpbpmaaW.Hand Go.Proofs.YtdbfclfglpbpmaaW.PrintWords Go.Proofs.YtdbfclfglpbpmaaW.PrintLast Go.Proofs.YtdbfclfglpbpmaaW.PrintMore Go.Proofs.Ytdbfclfglpbpmaa.PF21 Go.Proofs.Ytdbfclfglpbpmaa.Base Go.Proofs.Ytdbfclfglpbpmaa.LF21
set_option linter.unusedVariables false
set_option linter.unusedSimpArgs false

/-! ### hmac.Same, Check -/
end Go.Proofs.Ytdbfclfglpbpmaa.Sha

namespace Go.Proofs.Ytdbfclfglpbpmaa.Sha
open Go.RowKit Go.Proofs.YtdbfclfglpbpmaaW.Hand Go.Proofs.YtdbfclfglpbpmaaW.PrintWords Go.Proofs.YtdbfclfglpbpmaaW.PrintLast Go.Proofs.YtdbfclfglpbpmaaW.PrintMore Go.Proofs.Ytdbfclfglpbpmaa.PF21 Go.Proofs.Ytdbfclfglpbpmaa.Base Go.Proofs.Ytdbfclfglpbpmaa.LF21
set_option linter.unusedVariables false
set_option linter.unusedSimpArgs false

section
variable {P : Program} {ops : Array Oper} {rest : List Oper} {o : Oper} {a : Act} {W : World} {Q : Exit → Act → World → Prop}
end
end Go.Proofs.Ytdbfclfglpbpmaa.Sha

namespace Go.Proofs.Ytdbfclfglpbpmaa.Sha
open Go.RowKit Go.Proofs.YtdbfclfglpbpmaaW.Hand Go.Proofs.YtdbfclfglpbpmaaW.PrintWords Go.Proofs.YtdbfclfglpbpmaaW.PrintLast Go.Proofs.YtdbfclfglpbpmaaW.PrintMore Go.Proofs.Ytdbfclfglpbpmaa.PF21 Go.Proofs.Ytdbfclfglpbpmaa.Base Go.Proofs.Ytdbfclfglpbpmaa.LF21
set_option linter.unusedVariables false
set_option linter.unusedSimpArgs false

/-! ### keys -/
section
variable {P : Program} {ops : Array Oper} {o : Oper} {a : Act} {W : World} {K : Act → World → Prop} {Q : Exit → Act → World → Prop} {E : Prop}
theorem step_of (hw : Region.wanted o (yielded ops a.tmps) = true) (h : Oper.wp P o a W K Q) : if Region.wanted o (yielded ops a.tmps) = true then Oper.wp P o a W K Q else E := by
  rw [if_pos hw]
  exact h
theorem W_call (f : FuncId) (args : Array Value) (hrun : (execOp a.eval o).run P W = .ok (.enter f args) W) (hc : Calls P f args W fun e w' => ∃ v, e = .returned v ∧ K (a.put o.dst v) w') : o.wp P a W K Q := by
  unfold Oper.wp
  rw [hrun, Oper.upon_enter]
  refine hc.mono fun e w'' hh => ?_
  obtain ⟨v, rfl, hk⟩ := hh
  exact hk
theorem W_bslice (t e : TypeId) (len : Nat) (parts : Array (Nat × Operand)) (ho : o.op = .buildSlice t len parts) (hu : P.underlying t = some (.slice e)) (cells : Array Value)
    (hf : Go.Program.builtSlice P e len (parts.map fun (i, x) => (i, a.eval x)).toList = some cells)
    (h : ∀ g w1, w1.heap[g]? = some (.cells cells e (0, 0)) → W.heap.size = g → w1.heap.size = g + 1 → Below W.heap.size W w1 → K (a.put o.dst (.slice (some ⟨g, 0, none⟩) len len)) w1) : o.wp P a W K Q := by
  unfold Program.builtSlice at hf
  cases hie : P.info? e with
  | none => simp [hie] at hf
  | some ie =>
    simp only [hie] at hf
    cases hz : ie.zero with
    | none => simp [hz] at hf
    | some z =>
      simp only [hz] at hf
      by_cases hc : len * ie.size > 2 ^ 24 ∨ len * ie.size = 0
      · simp [hc] at hf
      · rw [if_neg hc] at hf
        exact wp_buildSlice t e len parts ho cells ie z hu hie hz (fun h' => hc (Or.inl h')) (fun h' => hc (Or.inr h')) hf (h _ _ (heap_alloc_new W _) rfl (by show (W.heap.push _).size = _; simp) ((Below.refl _ _).alloc (Nat.le_refl _) _))
theorem W_store (hd : o.dst = none) (ty : TypeId) (x y : Operand) (ho : o.op = .store ty x y) (g : Nat) (hx : a.eval x = .pointer (some ⟨g, 0, none⟩)) (cs : Array Value) (hy : a.eval y = .agg cs)
    (hi : (P.info? ty).map (·.size) = some cs.size) (cur : Array Value) (t : TypeId) (hg : W.heap[g]? = some (.cells cur t (0, 0))) (hfit : cs.size = cur.size) (h1 : cs.all (·.oneCell') = true)
    (h : ∀ w', w'.heap[g]? = some (.cells cs t (0, 0)) → Upd W w' g → K a w') : o.wp P a W K Q := by
  have hst := run_storeCells_at P g 0 t cs.toList 0 cur W hg (by simp [hfit]) (fun v hv => (Array.all_eq_true_iff_forall_mem.1 h1) v (by simpa using hv))
  have hnew : (cur.toList.take 0 ++ cs.toList ++ cur.toList.drop cs.toList.length).toArray = cs := by
    rw [Array.length_toList, hfit, List.drop_of_length_le (by simp)]
    simp
  simp only [Nat.add_zero, Nat.zero_add, hnew] at hst
  unfold Oper.wp execOp
  cases hq : P.info? ty with
  | none => simp [hq] at hi
  | some ii =>
    have hs : cs.size = ii.size := by simp [hq] at hi; omega
    have hrun : (Instr.storeAt ty (.pointer (some ⟨g, 0, none⟩)) (.agg cs)).run P W = .ok () (W.setRow g cs) := by
      simp [Instr.storeAt, Instr.sureAddr, storeVar, sizeOf, typeInfo, hq, Value.cells, hs, hst]
    simp only [ho, hx, hy, Sem.run_bind, hrun, Result.andThen_ok, Sem.run_pure]
    show K (a.put o.dst undef) _
    rw [hd]
    exact h _ (setRow_heap W g cur cs t (0, 0) hg) ⟨rfl, rfl, rfl, setRow_size W g cs, fun k hk => setRow_other W g k cs hk⟩
end
section
variable {P : Program} {md : Region.Mode} {ops : Array Oper} {o : Oper} {a : Act} {W : World} {Q : Exit → Act → World → Prop} {fuel : Nat} {listed : Array Bool}
theorem any_store (i : Nat) (ho : ops[i]? = some o) (hr : Region.ready md ops listed = [i]) (hw : Region.wanted o (yielded ops a.tmps) = true) (hd : o.dst = none) (ty : TypeId) (x y : Operand) (hop : o.op = .store ty x y) (g : Nat) (hx : a.eval x = .pointer (some ⟨g, 0, none⟩)) (cs : Array Value) (hy : a.eval y = .agg cs)
    (hi : (P.info? ty).map (·.size) = some cs.size) (cur : Array Value) (t : TypeId) (hg : W.heap[g]? = some (.cells cur t (0, 0))) (hfit : cs.size = cur.size) (h1 : cs.all (·.oneCell') = true)
    (h : ∀ w', w'.heap[g]? = some (.cells cs t (0, 0)) → Upd W w' g → wpAny P md ops Q fuel (listed.setIfInBounds i true) a w') : wpAny P md ops Q (fuel + 1) listed a W :=
  wpAny_ready hr (by simp) (AllReady.cons ho (fun K hK => step_of hw (W_store hd ty x y hop g hx cs hy hi cur t hg hfit h1 (fun w' h1 h2 => hK _ _ (h w' h1 h2)))) AllReady.nil)
end
end Go.Proofs.Ytdbfclfglpbpmaa.Sha

namespace Go.Proofs.Ytdbfclfglpbpmaa.Sha
open Go.RowKit Go.Proofs.YtdbfclfglpbpmaaW.Hand Go.Proofs.YtdbfclfglpbpmaaW.PrintWords Go.Proofs.YtdbfclfglpbpmaaW.PrintLast Go.Proofs.YtdbfclfglpbpmaaW.PrintMore Go.Proofs.Ytdbfclfglpbpmaa.PF21 Go.Proofs.Ytdbfclfglpbpmaa.Base Go.Proofs.Ytdbfclfglpbpmaa.LF21
set_option linter.unusedVariables false
set_option linter.unusedSimpArgs false
end Go.Proofs.Ytdbfclfglpbpmaa.Sha

namespace Go.Proofs.Ytdbfclfglpbpmaa.Sha
open Go.RowKit Go.Proofs.YtdbfclfglpbpmaaW.Hand Go.Proofs.YtdbfclfglpbpmaaW.PrintWords Go.Proofs.YtdbfclfglpbpmaaW.PrintLast Go.Proofs.YtdbfclfglpbpmaaW.PrintMore Go.Proofs.Ytdbfclfglpbpmaa.PF21 Go.Proofs.Ytdbfclfglpbpmaa.Base Go.Proofs.Ytdbfclfglpbpmaa.LF21
set_option linter.unusedVariables false
set_option linter.unusedSimpArgs false

end Go.Proofs.Ytdbfclfglpbpmaa.Sha

namespace Go.Proofs.Ytdbfclfglpbpmaa.Sha
open Go.RowKit Go.Proofs.YtdbfclfglpbpmaaW.Hand Go.Proofs.YtdbfclfglpbpmaaW.PrintWords Go.Proofs.YtdbfclfglpbpmaaW.PrintLast Go.Proofs.YtdbfclfglpbpmaaW.PrintMore Go.Proofs.Ytdbfclfglpbpmaa.PF21 Go.Proofs.Ytdbfclfglpbpmaa.Base Go.Proofs.Ytdbfclfglpbpmaa.LF21
set_option linter.unusedVariables false
set_option linter.unusedSimpArgs false

end Go.Proofs.Ytdbfclfglpbpmaa.Sha

namespace Go.AnyFacts
open Go Go.RowKit Go.Proofs.YtdbfclfglpbpmaaW.Hand Go.Proofs.YtdbfclfglpbpmaaW.PrintWords Go.Proofs.YtdbfclfglpbpmaaW.PrintLast Go.Proofs.YtdbfclfglpbpmaaW.PrintMore Go.Proofs.Ytdbfclfglpbpmaa.PF21 Go.Proofs.Ytdbfclfglpbpmaa.Base Go.Proofs.Ytdbfclfglpbpmaa.LF21 Go.Proofs.Ytdbfclfglpbpmaa.Sha
set_option linter.unusedVariables false
set_option linter.unusedSimpArgs false

/-! ### a list of what the operations yield -/
def Stab (p : Value → World → Prop) : Prop := ∀ v w w', p v w → Below w.heap.size w w' → p v w'
def getS (ps : List (Value → World → Prop)) (i : Nat) : Value → World → Prop := ps.getD i (fun _ _ => True)
inductive AllStab : List (Value → World → Prop) → Prop
  | nil : AllStab []
  | cons {p ps} : Stab p → AllStab ps → AllStab (p :: ps)
theorem AllStab.spec {ps : List (Value → World → Prop)} (h : AllStab ps) : ∀ i v w w', getS ps i v w → Below w.heap.size w w' → getS ps i v w' := by
  induction h with
  | nil => intro i v w w' _ _; simp [getS]
  | @cons p ps h1 h2 ih =>
    intro i v w w' h3 h4
    cases i with
    | zero => exact h1 v w w' h3 h4
    | succ i => exact ih i v w w' h3 h4
theorem stab_val (x : Value) : Stab (fun v _ => v = x) := fun _ _ _ h _ => h
theorem stab_any : Stab (fun _ _ => True) := fun _ _ _ _ _ => trivial
theorem stab_row (n c : Nat) (cs : Array Value) (ty : TypeId) (m : Nat × Nat) : Stab (fun v w => ∃ g, v = .slice (some ⟨g, 0, none⟩) n c ∧ w.heap[g]? = some (.cells cs ty m)) :=
  fun v w w' ⟨g, h1, h2⟩ hb => ⟨g, h1, (hb.block g (Array.getElem?_eq_some_iff.1 h2).1).trans h2⟩
theorem stab_ptr (cs : Array Value) (ty : TypeId) (m : Nat × Nat) : Stab (fun v w => ∃ g, v = .pointer (some ⟨g, 0, none⟩) ∧ w.heap[g]? = some (.cells cs ty m)) :=
  fun v w w' ⟨g, h1, h2⟩ hb => ⟨g, h1, (hb.block g (Array.getElem?_eq_some_iff.1 h2).1).trans h2⟩
theorem stab_C {α : Type} (k : Kd α) (xs : List α) : Stab (fun v w => ∃ A c, v = .slice A xs.length c ∧ xs.length ≤ c ∧ Kd.C k w A xs.length xs) :=
  fun v w w' ⟨A, c, h1, h2, h3⟩ hb => ⟨A, c, h1, h2, Kd.C_below h3 hb⟩
inductive EachOp (F : Nat → Oper → Prop) : Nat → List Oper → Prop
  | nil {n} : EachOp F n []
  | cons {n o l} : F n o → EachOp F (n + 1) l → EachOp F n (o :: l)
theorem EachOp.spec {F : Nat → Oper → Prop} : ∀ {l : List Oper} {n : Nat}, EachOp F n l → ∀ i o, l[i]? = some o → F (n + i) o := by
  intro l n h
  induction h with
  | nil => intro i o h; simp at h
  | @cons n o l h1 h2 ih =>
    intro i o' h
    cases i with
    | zero => simp at h; subst h; exact h1
    | succ i => have := ih i o' (by simpa using h); rw [show n + (i + 1) = n + 1 + i by omega]; exact this
theorem EachOp.of {F : Nat → Oper → Prop} {ops : Array Oper} {m : Nat} (h : EachOp F 0 (ops.toList.take m)) : ∀ i o, i < m → ops[i]? = some o → F i o := fun i o hi ho => by
  have := h.spec i o (by rw [List.getElem?_take_of_lt hi]; simpa using ho)
  simpa using this
def dstB (ops : Array Oper) (m N : Nat) : Bool := (List.range m).all fun i => match ops[i]? with
  | some o => match o.dst with | some d => decide (d < N) | none => false
  | none => true
theorem dst_of {ops : Array Oper} {m N : Nat} (h : dstB ops m N = true) : ∀ i o, i < m → ops[i]? = some o → ∃ d, o.dst = some d ∧ d < N := by
  intro i o hi ho
  unfold dstB at h
  rw [List.all_eq_true] at h
  have := h i (by rw [List.mem_range]; exact hi)
  simp only [ho] at this
  cases hd : o.dst with
  | none => simp [hd] at this
  | some d => simp only [hd, decide_eq_true_eq] at this; exact ⟨d, rfl, this⟩
inductive EvalsTo (a : Act) : Nat → List Value → Prop
  | nil {n : Nat} : EvalsTo a n []
  | cons {n : Nat} {v : Value} {l : List Value} : a.eval (.tmp n) = v → EvalsTo a (n + 1) l → EvalsTo a n (v :: l)
theorem EvalsTo.spec {a : Act} : ∀ {l : List Value} {n : Nat}, EvalsTo a n l → ∀ i v, l[i]? = some v → a.eval (.tmp (n + i)) = v := by
  intro l n h
  induction h with
  | nil => intro i v h; simp at h
  | @cons n v l h1 h2 ih =>
    intro i v' h
    cases i with
    | zero => simp at h; subst h; exact h1
    | succ i => have := ih i v' (by simpa using h); rw [show (n + (i + 1) : Nat) = n + 1 + i from by rw [Nat.add_assoc, Nat.add_comm 1 i]]; exact this
theorem frame_ext {a : Act} {vs : List Value} {ds : List Deferred} (hs : a.tmps.size = vs.length) (hd : a.defers = ds) (h : EvalsTo a 0 vs) : a = { tmps := vs.toArray, defers := ds } := by
  obtain ⟨ts, dd⟩ := a
  simp only at hs hd h
  subst hd
  congr 1
  apply Array.ext_getElem?
  intro i
  rcases Nat.lt_or_ge i vs.length with hi | hi
  · have := h.spec i vs[i] (by simp [hi])
    rw [Nat.zero_add] at this
    simp only [Act.eval, Array.getD_eq_getD_getElem?] at this
    have hit : i < ts.size := by omega
    rw [Array.getElem?_eq_getElem hit, Option.getD_some] at this
    rw [Array.getElem?_eq_getElem hit, this]
    simp [hi]
  · have hit : ts.size ≤ i := by omega
    rw [Array.getElem?_eq_none hit, Array.getElem?_eq_none (by simpa using hi)]

/-! ### one operation -/
section
variable {P : Program} {ops : Array Oper} {Q : Exit → Act → World → Prop} {t : Nat → Value → World → Prop} {fresh : Nat → Bool} {i : Nat} {o : Oper} {a : Act} {w : World}
theorem wanted_none (hg : o.guard = none) : Region.wanted o (yielded ops a.tmps) = true := by simp [Region.wanted, hg]
theorem wanted_yes {j d : Nat} {want : Bool} {oj : Oper} (hg : o.guard = some (j, want)) (hj : ops[j]? = some oj) (hd : oj.dst = some d) (he : a.eval (.tmp d) = .bool want) : Region.wanted o (yielded ops a.tmps) = true := by
  simp only [Act.eval, Array.getD_eq_getD_getElem?] at he
  cases h : a.tmps[d]? with
  | none => rw [h] at he; simp [undef] at he
  | some v =>
    rw [h, Option.getD_some] at he
    subst he
    simp [Region.wanted, hg, yielded, hj, hd, h]
theorem wanted_no {j d : Nat} {want got : Bool} {oj : Oper} (hg : o.guard = some (j, want)) (hj : ops[j]? = some oj) (hd : oj.dst = some d) (he : a.eval (.tmp d) = .bool got) (hne : got ≠ want) : Region.wanted o (yielded ops a.tmps) = false := by
  simp only [Act.eval, Array.getD_eq_getD_getElem?] at he
  cases h : a.tmps[d]? with
  | none => rw [h] at he; simp [undef] at he
  | some v =>
    rw [h, Option.getD_some] at he
    subst he
    simp [Region.wanted, hg, yielded, hj, hd, h, hne]
theorem A_value (hw : Region.wanted o (yielded ops a.tmps) = true) (v : Value) (hrun : (execOp a.eval o).run P w = .ok (.value v) w) (hv : t i v w) (hf : fresh i = false) : Step ops t fresh P Q i o a w := by
  unfold Step
  rw [if_pos hw]
  unfold Oper.wp
  rw [hrun, Oper.upon_value]
  exact ⟨v, rfl, Below.refl _ _, hv, fun h => by rw [hf] at h; cases h⟩
theorem A_skip (hw : Region.wanted o (yielded ops a.tmps) = false) (hv : t i undef w) (hf : fresh i = false) : Step ops t fresh P Q i o a w := by
  unfold Step
  rw [if_neg (by rw [hw]; decide)]
  exact ⟨hv, hf⟩
theorem A_call (hw : Region.wanted o (yielded ops a.tmps) = true) (f : FuncId) (xs : Array Operand) (ts : Array TypeId) (ho : o.op = .call { callee := .value (.func f), args := xs, argTypes := ts }) (args : Array Value) (hargs : xs.map a.eval = args) (hcf : (callFunc f (#[] ++ args ++ #[])).run P w = .ok (.enter f args) w)
    (hc : Calls P f args w fun e w' => ∃ v, e = .returned v ∧ Below w.heap.size w w' ∧ t i v w') (hf : fresh i = false) : Step ops t fresh P Q i o a w := by
  unfold Step
  rw [if_pos hw]
  refine W_call f args ?_ (hc.mono fun e w' ⟨v, h1, h2, h3⟩ => ⟨v, h1, v, rfl, h2, h3, fun h => by rw [hf] at h; cases h⟩)
  unfold execOp
  simp only [ho]
  subst hargs
  have e1 : (resolve a.eval { callee := .value (.func f), args := xs, argTypes := ts } o.type) = pure { target := .fn (.func f) #[], args := #[] ++ xs.map a.eval } := rfl
  rw [e1]
  simp only [Sem.run_bind, Sem.run_pure, Result.andThen_ok]
  exact hcf
theorem A_bslice (hw : Region.wanted o (yielded ops a.tmps) = true) (ty e : TypeId) (len : Nat) (parts : Array (Nat × Operand)) (ho : o.op = .buildSlice ty len parts) (hu : P.underlying ty = some (.slice e)) (vals : List (Nat × Value)) (hvals : (parts.map fun (i, x) => (i, a.eval x)).toList = vals) (cells : Array Value)
    (hc : Go.Program.builtSlice P e len vals = some cells)
    (h : ∀ g w', w'.heap[g]? = some (.cells cells e (0, 0)) → Below w.heap.size w w' → t i (.slice (some ⟨g, 0, none⟩) len len) w') : Step ops t fresh P Q i o a w := by
  unfold Step
  rw [if_pos hw]
  subst hvals
  exact W_bslice ty e len parts ho hu cells hc fun g w1 h1 h2 h3 h4 => ⟨_, rfl, h4, h g w1 h1 h4, fun _ => ⟨g, rfl, Nat.le_of_eq h2, by omega⟩⟩
theorem A_load (hw : Region.wanted o (yielded ops a.tmps) = true) (ty : TypeId) (x : Operand) (ho : o.op = .load ty x) (g : Nat) (hx : a.eval x = .pointer (some ⟨g, 0, none⟩)) (tt : TypeId) (cells : Array Value) (d : TypeDesc)
    (hg : w.heap[g]? = some (.cells cells tt (0, 0))) (hu : P.underlying ty = some d) (hd : (match d with | .struct _ | .array _ _ => true | _ => false) = true) (hi : (P.info? ty).map (·.size) = some cells.size)
    (hv : t i (.agg cells) w) (hf : fresh i = false) : Step ops t fresh P Q i o a w := by
  unfold Step
  rw [if_pos hw]
  exact wp_load_row ty x ho g hx tt cells (0, 0) d hg hu hd hi ⟨_, rfl, Below.refl _ _, hv, fun h => by rw [hf] at h; cases h⟩
theorem A_alloc (hw : Region.wanted o (yielded ops a.tmps) = true) (ty : TypeId) (ho : o.op = .alloc ty) (v : Value) (n : Nat) (hinfo : (P.info? ty).map (fun i => (i.zero, i.size)) = some (some v, n))
    (h : ∀ g w', w'.heap[g]? = some (.cells v.cells ty (0, 0)) → Below w.heap.size w w' → t i (.pointer (some ⟨g, 0, none⟩)) w') : Step ops t fresh P Q i o a w := by
  unfold Step
  rw [if_pos hw]
  cases hq : P.info? ty with
  | none => simp [hq] at hinfo
  | some ii =>
    simp [hq] at hinfo
    have hrun : (execOp a.eval o).run P w = .ok (.value (.pointer (some ⟨w.heap.size, 0, none⟩))) (w.alloc (.cells v.cells ty)) := by
      simp [execOp, ho, Instr.alloc, zeroValue, typeInfo, hq, hinfo.1, newVar, newRow, newObj]
      rfl
    unfold Oper.wp
    rw [hrun, Oper.upon_value]
    have hb : Below w.heap.size w (w.alloc (.cells v.cells ty)) := (Below.refl _ _).alloc (Nat.le_refl _) _
    exact ⟨_, rfl, hb, h w.heap.size _ (heap_alloc_new w _) hb, fun _ => ⟨w.heap.size, rfl, Nat.le_refl _, by show _ < (w.heap.push _).size; simp⟩⟩
theorem A_move (hw : Region.wanted o (yielded ops a.tmps) = true) (x : Operand) (ho : o.op = .move x) (v : Value) (hx : a.eval x = v) (hv : t i v w) (hf : fresh i = false) : Step ops t fresh P Q i o a w :=
  A_value hw v (by simp only [execOp, ho, hx, Sem.run_pure]) hv hf
theorem A_assign (hw : Region.wanted o (yielded ops a.tmps) = true) (x : Operand) (ho : o.op = .assign x) (v : Value) (hx : a.eval x = v) (hv : t i v w) (hf : fresh i = false) : Step ops t fresh P Q i o a w :=
  A_value hw v (by simp only [execOp, ho, hx, Sem.run_pure]) hv hf
theorem A_pick (hw : Region.wanted o (yielded ops a.tmps) = true) (c x y : Operand) (ho : o.op = .pick c x y) (b : Bool) (hc : a.eval c = .bool b) (v : Value) (hx : (if b = true then a.eval x else a.eval y) = v) (hv : t i v w) (hf : fresh i = false) : Step ops t fresh P Q i o a w := by
  refine A_value hw v ?_ hv hf
  subst hx
  cases b <;> simp [execOp, ho, hc, asBool]
theorem A_bin (hw : Region.wanted o (yielded ops a.tmps) = true) (op : BinOp) (ty : TypeId) (x y : Operand) (ty2 : TypeId) (ho : o.op = .binOp op ty x y ty2) (u v : Value) (hx : a.eval x = u) (hy : a.eval y = v) (r : Value)
    (hr : ((eqGuard op ty x y u v).run P w).andThen (fun _ w' => (binOp op ty u v).run P w') = .ok r w) (hv : t i r w) (hf : fresh i = false) : Step ops t fresh P Q i o a w := by
  refine A_value hw r ?_ hv hf
  cases hg : (eqGuard op ty x y u v).run P w with
  | halt e w' => rw [hg] at hr; cases hr
  | ok a1 w' =>
    rw [hg, Result.andThen_ok] at hr
    simp only [execOp, ho, hx, hy, Sem.run_bind, hg, Result.andThen_ok, hr, Sem.run_pure]
/-- '==' of two arrays of numbers. -/
theorem A_eqarr (hw : Region.wanted o (yielded ops a.tmps) = true) (ty e : TypeId) (n : Nat) (k : IntKind) (x y : Operand) (ty2 : TypeId) (ho : o.op = .binOp .eql ty x y ty2) (ht : P.underlying ty = some (.array n e)) (he : P.underlying e = some (.int k)) (hsz : (P.info? e).map (·.size) = some 1) (hm : P.eqGuardType P.depth ty = false)
    (xs ys : List Int) (hx : a.eval x = .agg (arr k xs)) (hy : a.eval y = .agg (arr k ys)) (hlx : xs.length = n) (hly : ys.length = n) (b : Bool) (hb : decide (xs = ys) = b) (hv : t i (.bool b) w) (hf : fresh i = false) : Step ops t fresh P Q i o a w := by
  refine A_value hw (.bool b) ?_ hv hf
  have h1 : (binOp .eql ty (.agg (arr k xs)) (.agg (arr k ys))).run P w = .ok (.bool b) w := by
    have := run_equalIn_arr (P := P) w 9998 ty e n k ht he hsz xs ys hlx hly
    rw [hb] at this
    simp [binOp, Op.equal, Op.maxDepth, this]
  simp [execOp, ho, hx, hy, run_eqGuard_agg w .eql ty x y (arr k xs) (arr k ys) hm, h1]
end
end Go.AnyFacts

namespace Go.AnyFacts
open Go Go.RowKit Go.Proofs.YtdbfclfglpbpmaaW.Hand Go.Proofs.YtdbfclfglpbpmaaW.PrintWords Go.Proofs.YtdbfclfglpbpmaaW.PrintLast Go.Proofs.YtdbfclfglpbpmaaW.PrintMore Go.Proofs.Ytdbfclfglpbpmaa.PF21 Go.Proofs.Ytdbfclfglpbpmaa.Base Go.Proofs.Ytdbfclfglpbpmaa.LF21 Go.Proofs.Ytdbfclfglpbpmaa.Sha
set_option linter.unusedVariables false
set_option linter.unusedSimpArgs false
section
variable {P : Program} {ops : Array Oper} {Q : Exit → Act → World → Prop} {t : Nat → Value → World → Prop} {fresh : Nat → Bool} {i : Nat} {o : Oper} {a : Act} {w : World}
/-- The whole of an array, as a slice. -/
theorem A_cutarr (hw : Region.wanted o (yielded ops a.tmps) = true) (ty e : TypeId) (n : Nat) (x : Operand) (ho : o.op = .slice ty x none none none) (ht : P.underlying ty = some (.array n e)) (hsz : (P.info? e).map (·.size) = some 1) (g : Nat) (hx : a.eval x = .pointer (some ⟨g, 0, none⟩))
    (hv : t i (.slice (some ⟨g, 0, none⟩) n n) w) (hf : fresh i = false) : Step ops t fresh P Q i o a w := by
  refine A_value hw _ ?_ hv hf
  cases hq : P.info? e with
  | none => simp [hq] at hsz
  | some ii =>
    have hs : ii.size = 1 := by simpa [hq] using hsz
    simp [execOp, ho, hx, Instr.sliceAt, Instr.sureAddr, Instr.sliceBounds, run_underlying ht, sizeOf, typeInfo, hq, Addr.add_lit]
theorem A_ixarr (hw : Region.wanted o (yielded ops a.tmps) = true) (ty e : TypeId) (n : Nat) (x y : Operand) (ho : o.op = .indexAddr ty x y) (ht : P.underlying ty = some (.array n e)) (hsz : (P.info? e).map (·.size) = some 1) (g : Nat) (hx : a.eval x = .pointer (some ⟨g, 0, none⟩)) (k : Nat) (hy : a.eval y = .int .i64 (k : Int)) (hk : k < n)
    (hv : t i (.pointer (some ⟨g, k, none⟩)) w) (hf : fresh i = false) : Step ops t fresh P Q i o a w := by
  refine A_value hw _ ?_ hv hf
  cases hq : P.info? e with
  | none => simp [hq] at hsz
  | some ii =>
    have hs : ii.size = 1 := by simpa [hq] using hsz
    simp [execOp, ho, hx, hy, Instr.indexAt, Instr.sureAddr, asIntOf, run_underlying ht, sizeOf, typeInfo, hq, hs, Addr.add_lit]
    omega
theorem A_loadcell (hw : Region.wanted o (yielded ops a.tmps) = true) (ty : TypeId) (x : Operand) (ho : o.op = .load ty x) (k : IntKind) (ht : P.underlying ty = some (.int k)) (ad : Addr) (hx : a.eval x = .pointer (some ad)) (v : Value) (hc : w.cell? ad = some v)
    (hv : t i v w) (hf : fresh i = false) : Step ops t fresh P Q i o a w := by
  refine A_value hw _ ?_ hv hf
  simp [execOp, ho, hx, Instr.loadAt, Instr.sureAddr, loadVar, isAgg, run_underlying ht, run_load, hc]
/-- '!=' of two arrays of numbers. -/
theorem A_nearr (hw : Region.wanted o (yielded ops a.tmps) = true) (ty e : TypeId) (n : Nat) (k : IntKind) (x y : Operand) (ty2 : TypeId) (ho : o.op = .binOp .neq ty x y ty2) (ht : P.underlying ty = some (.array n e)) (he : P.underlying e = some (.int k)) (hsz : (P.info? e).map (·.size) = some 1) (hm : P.eqGuardType P.depth ty = false)
    (xs ys : List Int) (hx : a.eval x = .agg (arr k xs)) (hy : a.eval y = .agg (arr k ys)) (hlx : xs.length = n) (hly : ys.length = n) (b : Bool) (hb : decide (xs = ys) = b) (hv : t i (.bool (!b)) w) (hf : fresh i = false) : Step ops t fresh P Q i o a w := by
  refine A_value hw (.bool (!b)) ?_ hv hf
  have h1 : (binOp .neq ty (.agg (arr k xs)) (.agg (arr k ys))).run P w = .ok (.bool (!b)) w := by
    have := run_equalIn_arr (P := P) w 9998 ty e n k ht he hsz xs ys hlx hly
    rw [hb] at this
    simp [binOp, Op.equal, Op.maxDepth, this]
  simp [execOp, ho, hx, hy, run_eqGuard_agg w .neq ty x y (arr k xs) (arr k ys) hm, h1]
end
end Go.AnyFacts

namespace Go.AnyFacts
open Go Go.RowKit
open Go.Proofs.YtdbfclfglpbpmaaW.Hand Go.Proofs.YtdbfclfglpbpmaaW.PrintWords Go.Proofs.YtdbfclfglpbpmaaW.PrintLast Go.Proofs.YtdbfclfglpbpmaaW.PrintMore Go.Proofs.Ytdbfclfglpbpmaa.PF21 Go.Proofs.Ytdbfclfglpbpmaa.Base Go.Proofs.Ytdbfclfglpbpmaa.LF21 Go.Proofs.Ytdbfclfglpbpmaa.Sha
set_option linter.unusedVariables false
set_option linter.unusedSimpArgs false
section
variable {P : Program} {ops : Array Oper} {Q : Exit → Act → World → Prop}
variable (ops) (N : Nat) (t : Nat → Value → World → Prop) (fresh : Nat → Bool) (tgt : Nat → Option Nat) (a0 : Act) (w0 : World)
/-- Where the value lies that an operation's fact speaks of: its own slot, or (a store) that of the block it writes to. -/
def slotTo (i : Nat) (a : Act) : Value := match tgt i with
  | some k => slotOf ops a k
  | none => slotOf ops a i
/-- w' is w but for block g. -/
structure But (w w' : World) (g : Nat) : Prop where
  os : w'.os = w.os
  tape : w'.tape = w.tape
  output : w'.output = w.output
  size : w'.heap.size = w.heap.size
  block : ∀ k, k ≠ g → w'.heap[k]? = w.heap[k]?
structure Held2 (did : Nat → Prop) (a : Act) (w : World) : Prop where
  size : a.tmps.size = N
  defers : a.defers = a0.defers
  kept : ∀ s, writes ops ops.size s = false → a.eval (.tmp s) = a0.eval (.tmp s)
  below : Below w0.heap.size w0 w
  fact : ∀ i, i < ops.size → did i → t i (slotTo ops tgt i a) w
  new : ∀ i, i < ops.size → did i → fresh i = true → ∃ g, blk (slotOf ops a i) = some g ∧ w0.heap.size ≤ g ∧ g < w.heap.size
  apart : ∀ i j, i < ops.size → j < ops.size → i ≠ j → did i → did j → fresh i = true → fresh j = true → blk (slotOf ops a i) ≠ blk (slotOf ops a j)
/-- What a store brings about. -/
def StepS (P : Program) (Q : Exit → Act → World → Prop) (i k : Nat) (o : Oper) (a : Act) (w : World) : Prop :=
  Region.wanted o (yielded ops a.tmps) = true ∧ o.wp P a w (fun a' w' => a' = a ∧ ∃ g, blk (slotOf ops a k) = some g ∧ But w w' g ∧ t i (slotOf ops a k) w' ∧ t k (slotOf ops a k) w') Q
/-- A fact that stays where another block is written to. -/
def Firm (i : Nat) : Prop := (∀ v w w', t i v w → t i v w') ∨ ((fresh i = true ∨ ∃ k, tgt i = some k ∧ fresh k = true) ∧ ∀ v w w' g, t i v w → blk v ≠ some g → (∀ k, k ≠ g → w'.heap[k]? = w.heap[k]?) → t i v w')
variable {ops N t fresh tgt a0 w0}
theorem region_facts2 {id : Nat} {a : Act} {w : World} (hm : P.follows .mixedOrders = true) (t : Nat → Value → World → Prop) (fresh : Nat → Bool) (tgt : Nat → Option Nat)
    (hp : plainB ops ops.size = true) (hst : ∀ i v w w', t i v w → Below w.heap.size w w' → t i v w') (hfirm : ∀ i, i < ops.size → Firm t fresh tgt i)
    (htg : ∀ i k, i < ops.size → tgt i = some k → k < ops.size ∧ tgt k = none ∧ fresh k = true ∧ fresh i = false ∧ depOn ops i k = true ∧ (∀ o, ops[i]? = some o → o.dst = none) ∧ ∀ j, j < ops.size → tgt j = some k → j = i)
    (hdst : ∀ i o, i < ops.size → tgt i = none → ops[i]? = some o → ∃ d, o.dst = some d ∧ d < a.tmps.size)
    (hop : ∀ i o, i < ops.size → tgt i = none → ops[i]? = some o → ∀ did a' w', Held2 ops a.tmps.size t fresh tgt a w.drew did a' w' → (∀ j, depOn ops i j = true → did j) → Step ops t fresh P Q i o a' w')
    (hopS : ∀ i k o, i < ops.size → tgt i = some k → ops[i]? = some o → ∀ did a' w', Held2 ops a.tmps.size t fresh tgt a w.drew did a' w' → (∀ j, depOn ops i j = true → did j) → StepS ops t P Q i k o a' w')
    (hfin : ∀ a' w', Held2 ops a.tmps.size t fresh tgt a w.drew (fun _ => True) a' w' → Region.ready .any ops (Array.replicate ops.size true) = [] → Q .normal a' w') :
    (Code.region id ops true).wp P Q a w := by
  refine wp_region_any hm ?_
  suffices H : ∀ (fuel : Nat) (listed : Array Bool) (a' : Act) (w' : World), listed.size = ops.size → listed.toList.count false = fuel →
      (∀ i o, ops[i]? = some o → listed.getD i false = true → ∀ e ∈ o.after, Region.binds .any e = true → listed.getD e.on false = true) →
      Held2 ops a.tmps.size t fresh tgt a w.drew (fun i => listed.getD i false = true) a' w' → wpAny P .any ops Q fuel listed a' w' by
    refine H ops.size _ a w.drew (by simp) (by simp) ?_ ?_
    · intro i o ho hi
      have hlt := (Array.getElem?_eq_some_iff.1 ho).1
      simp [hlt] at hi
    · refine ⟨rfl, rfl, fun s _ => rfl, Below.refl _ _, fun i hi hd => ?_, fun i hi hd => ?_, fun i j hi hj hne hd => ?_⟩ <;> simp [hi] at hd
  intro fuel
  have full : ∀ (listed : Array Bool), listed.size = ops.size → (∀ i, i < ops.size → listed.getD i false = true) → listed = Array.replicate ops.size true := by
    intro listed hsz hall
    apply Array.ext_getElem?
    intro i
    rcases Nat.lt_or_ge i listed.size with hi | hi
    · have := hall i (by omega)
      simp only [Array.getD_eq_getD_getElem?, hi, Array.getElem?_eq_getElem, Option.getD_some] at this
      rw [Array.getElem?_eq_getElem hi, this, Array.getElem?_eq_getElem (by simp; omega)]
      simp
    · rw [Array.getElem?_eq_none hi, Array.getElem?_eq_none (by simp; omega)]
  have readyFull : Region.ready .any ops (Array.replicate ops.size true) = [] := by
    cases hr : Region.ready .any ops (Array.replicate ops.size true) with
    | nil => rfl
    | cons x xs =>
      have hx : x ∈ Region.ready .any ops (Array.replicate ops.size true) := by rw [hr]; simp
      obtain ⟨h0, _⟩ := mem_ready.1 hx
      by_cases hlt : x < ops.size <;> simp [hlt] at h0
  have done : ∀ (listed : Array Bool) (a' : Act) (w' : World) (fuel : Nat), listed.size = ops.size → Held2 ops a.tmps.size t fresh tgt a w.drew (fun i => listed.getD i false = true) a' w' → (∀ i, i < ops.size → listed.getD i false = true) → wpAny P .any ops Q fuel listed a' w' := by
    intro listed a' w' fuel hsz hH hall
    rw [full listed hsz hall]
    exact wpAny_done readyFull (hfin a' w' ⟨hH.size, hH.defers, hH.kept, hH.below, fun i hi _ => hH.fact i hi (hall i hi), fun i hi _ => hH.new i hi (hall i hi), fun i j hi hj hne _ _ => hH.apart i j hi hj hne (hall i hi) (hall j hj)⟩ readyFull) fuel
  induction fuel with
  | zero =>
    intro listed a' w' hsz hct hcl hH
    refine done listed a' w' 0 hsz hH fun i hi => ?_
    have hil : i < listed.size := by omega
    cases hb : listed[i] with
    | true => simp [hil, hb]
    | false =>
      have := count_pos listed.toList i (by simp [hil, hb])
      omega
  | succ fuel ih =>
    intro listed a' w' hsz hct hcl hH
    by_cases hall : ∀ i, i < ops.size → listed.getD i false = true
    · exact done listed a' w' (fuel + 1) hsz hH hall
    · have hex : ∃ i, i < ops.size ∧ listed.getD i false = false := by
        apply Classical.byContradiction
        intro hn
        apply hall
        intro i hi
        cases hb : listed.getD i false with
        | true => rfl
        | false => exact absurd ⟨i, hi, hb⟩ hn
      have hleast : ∃ i, i < ops.size ∧ listed.getD i false = false ∧ ∀ j, j < i → listed.getD j false = true := by
        obtain ⟨i, hi, hb⟩ := hex
        induction i using Nat.strongRecOn with
        | ind i ihi =>
          by_cases hj : ∃ j, j < i ∧ listed.getD j false = false
          · obtain ⟨j, hji, hjb⟩ := hj
            exact ihi j hji (by omega) hjb
          · refine ⟨i, hi, hb, fun j hji => ?_⟩
            cases hbj : listed.getD j false with
            | true => rfl
            | false => exact absurd ⟨j, hji, hbj⟩ hj
      have hne : Region.ready .any ops listed ≠ [] := by
        obtain ⟨i, hi, hb, hlow⟩ := hleast
        have hmem : i ∈ Region.ready .any ops listed := by
          rw [mem_ready]
          refine ⟨by rw [getD_flip (by omega)]; exact hb, ops[i], by simp [hi], fun e he hbnd => hlow _ (plain_back hp (i := i) (o := ops[i]) (by simp [hi]) e he hbnd)⟩
        intro h0
        rw [h0] at hmem
        cases hmem
      refine ⟨fun h0 => absurd h0 hne, fun i hir => ?_⟩
      obtain ⟨hun, o, ho, hall2⟩ := mem_ready.1 hir
      have hlt : i < ops.size := (Array.getElem?_eq_some_iff.1 ho).1
      have hunf : listed.getD i false = false := by rw [← getD_flip (by omega)]; exact hun
      have hdep : ∀ j, depOn ops i j = true → listed.getD j false = true := by
        intro j hd
        unfold depOn at hd
        simp only [ho] at hd
        obtain ⟨e, he, hb⟩ := Array.any_eq_true'.1 hd
        simp only [Bool.and_eq_true, beq_iff_eq] at hb
        rw [← hb.2]
        exact hall2 e he hb.1
      have hset : ∀ k, (listed.setIfInBounds i true).getD k false = true → (listed.getD k false = true ∨ k = i) := by
        intro k hk
        by_cases hki : k = i
        · exact .inr hki
        · rw [getD_set_ne false (Ne.symm hki)] at hk
          exact .inl hk
      have hcount : (listed.setIfInBounds i true).toList.count false = fuel := by
        have := count_set listed.toList i (by
          have hil : i < listed.size := by omega
          simp only [Array.getD_eq_getD_getElem?, hil, Array.getElem?_eq_getElem, Option.getD_some] at hunf
          simp [hil, hunf])
        rw [Array.toList_setIfInBounds]
        omega
      have hclosed : ∀ k ok, ops[k]? = some ok → (listed.setIfInBounds i true).getD k false = true → ∀ e ∈ ok.after, Region.binds .any e = true → (listed.setIfInBounds i true).getD e.on false = true := by
        intro k ok hok hk e he hbnd
        by_cases hki : k = i
        · subst hki
          rw [ho] at hok
          injection hok with hok
          subst hok
          exact getD_set_true (hall2 e he hbnd)
        · rw [getD_set_ne false (Ne.symm hki)] at hk
          exact getD_set_true (hcl k ok hok hk e he hbnd)
      cases htg0 : tgt i with
      | none =>
        have hs := hop i o hlt htg0 ho (fun i => listed.getD i false = true) a' w' hH hdep
        obtain ⟨d, hd1, hd2⟩ := hdst i o hlt htg0 ho
        have next : ∀ v w'', Below w'.heap.size w' w'' → t i v w'' → (fresh i = true → ∃ g, blk v = some g ∧ w'.heap.size ≤ g ∧ g < w''.heap.size) → wpAny P .any ops Q fuel (listed.setIfInBounds i true) (a'.put o.dst v) w'' := by
          intro v w'' hb hv hf
          have hsame : slotOf ops (a'.put o.dst v) i = v := by
            unfold slotOf
            simp only [ho, hd1]
            exact eval_put_same a' d v (by rw [hH.size]; exact hd2)
          have hother : ∀ k, k < ops.size → k ≠ i → slotOf ops (a'.put o.dst v) k = slotOf ops a' k := by
            intro k hk hne
            unfold slotOf
            cases hok : ops[k]? with
            | none => rfl
            | some ok =>
              cases hdk : ok.dst with
              | none => simp only [hdk]
              | some e => simp only [hdk]; exact eval_put_ne a' o.dst e v (by rw [hd1]; intro h'; injection h' with h'; subst h'; exact plain_dst hp k i ok o d hk hlt hne hok ho hdk hd1)
          have hdid : ∀ k, (listed.setIfInBounds i true).getD k false = true → k ≠ i → listed.getD k false = true := fun k hk hne => (hset k hk).resolve_right hne
          refine ih _ _ _ (by simpa using hsz) hcount hclosed ⟨by rw [size_put, hH.size], by rw [defers_put, hH.defers], fun s hs => ?_, ⟨hb.os.trans hH.below.os, hb.tape.trans hH.below.tape, hb.output.trans hH.below.output, Nat.le_trans hH.below.size hb.size, fun k hk => (hb.block k (Nat.lt_of_lt_of_le hk hH.below.size)).trans (hH.below.block k hk)⟩, fun k hk hd => ?_, fun k hk hd hfk => ?_, fun k j hk hj hne hdk hdj hfk hfj => ?_⟩
          · rw [eval_put_ne a' o.dst s v ?_]
            · exact hH.kept s hs
            · intro e
              unfold writes at hs
              rw [List.any_eq_false] at hs
              have := hs i (by rw [List.mem_range]; exact hlt)
              simp [ho, e] at this
          · by_cases hki : k = i
            · subst hki
              unfold slotTo
              simp only [htg0]
              rw [hsame]
              exact hv
            · have hto : slotTo ops tgt k (a'.put o.dst v) = slotTo ops tgt k a' := by
                unfold slotTo
                cases htk : tgt k with
                | none => simp only [htk]; exact hother k hk hki
                | some q =>
                  simp only [htk]
                  obtain ⟨hq, _, _, _, hqd, _⟩ := htg k q hk htk
                  have hqi : q ≠ i := by
                    intro e
                    subst e
                    have hkd := hdid k hd hki
                    have hko : ops[k]? = some ops[k] := by simp [hk]
                    have : listed.getD q false = true := by
                      unfold depOn at hqd
                      simp only [hko] at hqd
                      obtain ⟨e, he, hb'⟩ := Array.any_eq_true'.1 hqd
                      simp only [Bool.and_eq_true, beq_iff_eq] at hb'
                      rw [← hb'.2]
                      exact hcl k _ hko hkd e he hb'.1
                    rw [hunf] at this
                    cases this
                  exact hother q hq hqi
              rw [hto]
              exact hst _ _ _ _ (hH.fact k hk (hdid k hd hki)) hb
          · by_cases hki : k = i
            · subst hki
              rw [hsame]
              obtain ⟨g, h1, h2, h3⟩ := hf hfk
              exact ⟨g, h1, Nat.le_trans hH.below.size h2, h3⟩
            · rw [hother k hk hki]
              obtain ⟨g, h1, h2, h3⟩ := hH.new k hk (hdid k hd hki) hfk
              exact ⟨g, h1, h2, Nat.lt_of_lt_of_le h3 hb.size⟩
          · by_cases hki : k = i
            · subst hki
              rw [hsame, hother j hj (Ne.symm hne)]
              obtain ⟨g, h1, h2, h3⟩ := hf hfk
              obtain ⟨g', h1', h2', h3'⟩ := hH.new j hj (hdid j hdj (Ne.symm hne)) hfj
              rw [h1, h1']
              intro e
              injection e with e
              omega
            · by_cases hji : j = i
              · subst hji
                rw [hsame, hother k hk hki]
                obtain ⟨g, h1, h2, h3⟩ := hf hfj
                obtain ⟨g', h1', h2', h3'⟩ := hH.new k hk (hdid k hdk hki) hfk
                rw [h1, h1']
                intro e
                injection e with e
                omega
              · rw [hother k hk hki, hother j hj hji]
                exact hH.apart k j hk hj hne (hdid k hdk hki) (hdid j hdj hji) hfk hfj
        unfold Step at hs
        unfold wpOp
        simp only [ho]
        by_cases hw : Region.wanted o (yielded ops a'.tmps) = true
        · rw [if_pos hw] at hs
          rw [if_pos hw]
          refine .inl (Oper.wp_mono ?_ hs)
          rintro a'' w'' ⟨v, rfl, hb, hv, hf⟩
          exact next v w'' hb hv hf
        · rw [if_neg hw] at hs
          rw [if_neg hw]
          exact next undef w' (Below.refl _ _) hs.1 (fun h => by rw [hs.2] at h; cases h)
      | some k =>
        obtain ⟨hk, htk, hfk, hfi, hdk, hnd, huniq⟩ := htg i k hlt htg0
        obtain ⟨hw, hs⟩ := hopS i k o hlt htg0 ho (fun i => listed.getD i false = true) a' w' hH hdep
        unfold wpOp
        simp only [ho]
        rw [if_pos hw]
        refine .inl (Oper.wp_mono ?_ hs)
        rintro a'' w'' ⟨rfl, g, hg, hbut, hti, htk'⟩
        have hkd := hdep k hdk
        obtain ⟨g', hg1, hg2, hg3⟩ := hH.new k hk hkd hfk
        have hgg : g' = g := by rw [hg] at hg1; injection hg1 with e; exact e.symm
        subst hgg
        refine ih _ _ _ (by simpa using hsz) hcount hclosed ⟨hH.size, hH.defers, hH.kept, ⟨hbut.os.trans hH.below.os, hbut.tape.trans hH.below.tape, hbut.output.trans hH.below.output, by rw [hbut.size]; exact hH.below.size, fun j hj => (hbut.block j (by omega)).trans (hH.below.block j hj)⟩, fun j hj hd => ?_, fun j hj hd hfj => ?_, fun j l hj hl hne hdj hdl hfj hfl => ?_⟩
        · by_cases hji : j = i
          · subst hji
            unfold slotTo
            simp only [htg0]
            exact hti
          · have hjd := (hset j hd).resolve_right hji
            by_cases hjk : j = k
            · subst hjk
              unfold slotTo
              simp only [htk]
              exact htk'
            · rcases hfirm j hj with h1 | ⟨h1, h2⟩
              · exact h1 _ _ _ (hH.fact j hj hjd)
              · refine h2 _ w' _ g' (hH.fact j hj hjd) ?_ hbut.block
                unfold slotTo
                cases htj : tgt j with
                | none =>
                  simp only [htj]
                  rcases h1 with h1 | ⟨q, hq, _⟩
                  · rw [← hg]
                    exact hH.apart j k hj hk hjk hjd hkd h1 hfk
                  · rw [htj] at hq
                    cases hq
                | some q =>
                  simp only [htj]
                  obtain ⟨hq, _, hfq, _, hqd, _, _⟩ := htg j q hj htj
                  have hqk : q ≠ k := by
                    intro e
                    subst e
                    exact hji (huniq j hj htj)
                  have hqd' : listed.getD q false = true := by
                    have hjo : ops[j]? = some ops[j] := by simp [hj]
                    unfold depOn at hqd
                    simp only [hjo] at hqd
                    obtain ⟨e, he, hb'⟩ := Array.any_eq_true'.1 hqd
                    simp only [Bool.and_eq_true, beq_iff_eq] at hb'
                    rw [← hb'.2]
                    exact hcl j _ hjo hjd e he hb'.1
                  rw [← hg]
                  exact hH.apart q k hq hk hqk hqd' hkd hfq hfk
        · have hji : j ≠ i := by intro e; subst e; rw [hfi] at hfj; cases hfj
          obtain ⟨x, h1, h2, h3⟩ := hH.new j hj ((hset j hd).resolve_right hji) hfj
          exact ⟨x, h1, h2, by rw [hbut.size]; exact h3⟩
        · have hji : j ≠ i := by intro e; subst e; rw [hfi] at hfj; cases hfj
          have hli : l ≠ i := by intro e; subst e; rw [hfi] at hfl; cases hfl
          exact hH.apart j l hj hl hne ((hset j hdj).resolve_right hji) ((hset l hdl).resolve_right hli) hfj hfl
end
section
variable {P : Program} {ops : Array Oper} {Q : Exit → Act → World → Prop}
def tgtB (ops : Array Oper) (tgt : Nat → Option Nat) (fresh : Nat → Bool) : Bool := (List.range ops.size).all fun i => match tgt i with
  | none => true
  | some k => decide (k < ops.size) && (tgt k == none) && fresh k && !fresh i && depOn ops i k && (match ops[i]? with | some o => o.dst == none | none => true) && (List.range ops.size).all fun j => !(tgt j == some k) || decide (j = i)
theorem tgt_of {tgt : Nat → Option Nat} {fresh : Nat → Bool} (h : tgtB ops tgt fresh = true) : ∀ i k, i < ops.size → tgt i = some k → k < ops.size ∧ tgt k = none ∧ fresh k = true ∧ fresh i = false ∧ depOn ops i k = true ∧ (∀ o, ops[i]? = some o → o.dst = none) ∧ ∀ j, j < ops.size → tgt j = some k → j = i := by
  intro i k hi hk
  unfold tgtB at h
  rw [List.all_eq_true] at h
  have := h i (by rw [List.mem_range]; exact hi)
  simp only [hk, Bool.and_eq_true, decide_eq_true_eq, beq_iff_eq, Bool.not_eq_true', List.all_eq_true, List.mem_range, Bool.or_eq_true] at this
  obtain ⟨⟨⟨⟨⟨⟨h1, h2⟩, h3⟩, h4⟩, h5⟩, h6⟩, h7⟩ := this
  refine ⟨h1, h2, h3, h4, h5, fun o ho => ?_, fun j hj hjk => ?_⟩
  · simp only [ho, beq_iff_eq] at h6
    exact h6
  · rcases h7 j hj with h8 | h8
    · simp [hjk] at h8
    · exact h8
def dstB2 (ops : Array Oper) (tgt : Nat → Option Nat) (N : Nat) : Bool := (List.range ops.size).all fun i => match ops[i]? with
  | some o => match o.dst with | some d => decide (d < N) | none => !(tgt i == none)
  | none => true
theorem dst_of2 {tgt : Nat → Option Nat} {N : Nat} (h : dstB2 ops tgt N = true) : ∀ i o, i < ops.size → tgt i = none → ops[i]? = some o → ∃ d, o.dst = some d ∧ d < N := by
  intro i o hi ht ho
  unfold dstB2 at h
  rw [List.all_eq_true] at h
  have := h i (by rw [List.mem_range]; exact hi)
  simp only [ho] at this
  cases hd : o.dst with
  | none => simp [hd, ht] at this
  | some d => simp only [hd, decide_eq_true_eq] at this; exact ⟨d, rfl, this⟩
inductive AllFirm (t : Nat → Value → World → Prop) (fresh : Nat → Bool) (tgt : Nat → Option Nat) : Nat → Nat → Prop
  | nil {n} : AllFirm t fresh tgt n n
  | cons {i n} : Firm t fresh tgt i → AllFirm t fresh tgt (i + 1) n → AllFirm t fresh tgt i n
theorem AllFirm.spec {t : Nat → Value → World → Prop} {fresh : Nat → Bool} {tgt : Nat → Option Nat} : ∀ {i n : Nat}, AllFirm t fresh tgt i n → ∀ j, i ≤ j → j < n → Firm t fresh tgt j := by
  intro i n h
  induction h with
  | nil => intro j h1 h2; omega
  | @cons i n h1 h2 ih =>
    intro j h3 h4
    by_cases e : j = i
    · subst e; exact h1
    · exact ih j (by omega) h4
def F2 (ops : Array Oper) (N : Nat) (t : Nat → Value → World → Prop) (fresh : Nat → Bool) (tgt : Nat → Option Nat) (a0 : Act) (w0 : World) (P : Program) (Q : Exit → Act → World → Prop) (i : Nat) (o : Oper) : Prop :=
  (tgt i = none → ∀ did a' w', Held2 ops N t fresh tgt a0 w0 did a' w' → (∀ j, depOn ops i j = true → did j) → Step ops t fresh P Q i o a' w') ∧ ∀ k, tgt i = some k → ∀ did a' w', Held2 ops N t fresh tgt a0 w0 did a' w' → (∀ j, depOn ops i j = true → did j) → StepS ops t P Q i k o a' w'
theorem F2.store {N : Nat} {t : Nat → Value → World → Prop} {fresh : Nat → Bool} {tgt : Nat → Option Nat} {a0 : Act} {w0 : World} {i : Nat} {o : Oper} (k : Nat) (hn : tgt i = some k) (h : ∀ did a' w', Held2 ops N t fresh tgt a0 w0 did a' w' → (∀ j, depOn ops i j = true → did j) → StepS ops t P Q i k o a' w') : F2 ops N t fresh tgt a0 w0 P Q i o :=
  ⟨fun h0 => (by rw [hn] at h0; cases h0), fun k' hk => by rw [hn] at hk; injection hk with hk; subst hk; exact h⟩
theorem region_all2 {id : Nat} {a : Act} {w : World} (hm : P.follows .mixedOrders = true) (t : Nat → Value → World → Prop) (fresh : Nat → Bool) (tgt : Nat → Option Nat)
    (hp : plainB ops ops.size = true) (hst : ∀ i v w w', t i v w → Below w.heap.size w w' → t i v w') (hfirm : AllFirm t fresh tgt 0 ops.size) (htg : tgtB ops tgt fresh = true) (hdst : dstB2 ops tgt a.tmps.size = true)
    (hop : EachOp (F2 ops a.tmps.size t fresh tgt a w.drew P Q) 0 (ops.toList.take ops.size))
    (hfin : ∀ a' w', Held2 ops a.tmps.size t fresh tgt a w.drew (fun _ => True) a' w' → Q .normal a' w') :
    (Code.region id ops true).wp P Q a w :=
  region_facts2 hm t fresh tgt hp hst (fun i hi => hfirm.spec i (Nat.zero_le _) hi) (tgt_of htg) (dst_of2 hdst) (fun i o hi ht ho => (EachOp.of hop i o hi ho).1 ht) (fun i k o hi ht ho => (EachOp.of hop i o hi ho).2 k ht) (fun a' w' h _ => hfin a' w' h)
theorem A_store {t : Nat → Value → World → Prop} {i k : Nat} {o : Oper} {a : Act} {w : World} (hw : Region.wanted o (yielded ops a.tmps) = true) (hd : o.dst = none) (ty : TypeId) (x y : Operand) (ho : o.op = .store ty x y) (g : Nat) (hx : a.eval x = .pointer (some ⟨g, 0, none⟩)) (hk : slotOf ops a k = .pointer (some ⟨g, 0, none⟩)) (cs : Array Value) (hy : a.eval y = .agg cs)
    (tt : TypeId) (old : Array Value) (hg : w.heap[g]? = some (.cells old tt (0, 0))) (hs : old.size = cs.size) (hi : (P.info? ty).map (·.size) = some cs.size) (h1 : cs.all (·.oneCell') = true)
    (h : ∀ w', w'.heap[g]? = some (.cells cs tt (0, 0)) → t i (.pointer (some ⟨g, 0, none⟩)) w' ∧ t k (.pointer (some ⟨g, 0, none⟩)) w') : StepS ops t P Q i k o a w := by
  refine ⟨hw, wp_store_row ty x y ho g cs hx hy tt old hg hi hs h1 ?_⟩
  rw [hd, hk]
  have := h _ (setRow_heap w g old cs tt (0, 0) hg)
  exact ⟨rfl, g, rfl, ⟨rfl, rfl, rfl, setRow_size w g cs, fun k hk => setRow_other w g k cs hk⟩, this.1, this.2⟩
/-- The place of an element of an array of parts of s cells. -/
theorem A_ixarrs {t : Nat → Value → World → Prop} {fresh : Nat → Bool} {i : Nat} {o : Oper} {a : Act} {w : World} (hw : Region.wanted o (yielded ops a.tmps) = true) (ty e : TypeId) (n s : Nat) (x y : Operand) (ho : o.op = .indexAddr ty x y) (ht : P.underlying ty = some (.array n e)) (hsz : (P.info? e).map (·.size) = some s) (g : Nat) (hx : a.eval x = .pointer (some ⟨g, 0, none⟩)) (k : Nat) (hy : a.eval y = .int .i64 (k : Int)) (hk : k < n)
    (hv : t i (.pointer (some ⟨g, k * s, none⟩)) w) (hf : fresh i = false) : Step ops t fresh P Q i o a w := by
  refine A_value hw _ ?_ hv hf
  cases hq : P.info? e with
  | none => simp [hq] at hsz
  | some ii =>
    have hs : ii.size = s := by simpa [hq] using hsz
    simp [execOp, ho, hx, hy, Instr.indexAt, Instr.sureAddr, asIntOf, run_underlying ht, sizeOf, typeInfo, hq, hs, Addr.add_lit]
    omega
/-- One cell is read. -/
theorem A_load1 {t : Nat → Value → World → Prop} {fresh : Nat → Bool} {i : Nat} {o : Oper} {a : Act} {w : World} (hw : Region.wanted o (yielded ops a.tmps) = true) (ty : TypeId) (x : Operand) (ho : o.op = .load ty x) (d : TypeDesc) (ht : P.underlying ty = some d) (hd : (match d with | .struct _ | .array _ _ => false | _ => true) = true) (ad : Addr) (hx : a.eval x = .pointer (some ad)) (v : Value) (hc : w.cell? ad = some v)
    (hv : t i v w) (hf : fresh i = false) : Step ops t fresh P Q i o a w := by
  refine A_value hw _ ?_ hv hf
  have : (isAgg ty).run P w = .ok false w := by
    cases d <;> first | (simp at hd; done) | simp [isAgg, run_underlying ht]
  simp [execOp, ho, hx, Instr.loadAt, Instr.sureAddr, loadVar, this, run_load, hc]
/-- Two cells are read as a whole. -/
theorem A_load2 {t : Nat → Value → World → Prop} {fresh : Nat → Bool} {i : Nat} {o : Oper} {a : Act} {w : World} (hw : Region.wanted o (yielded ops a.tmps) = true) (ty : TypeId) (x : Operand) (ho : o.op = .load ty x) (n : Nat) (e : TypeId) (ht : P.underlying ty = some (.array n e)) (hsz : (P.info? ty).map (·.size) = some 2) (g q : Nat) (hx : a.eval x = .pointer (some ⟨g, q, none⟩)) (u v : Value) (hc : w.cell? ⟨g, q, none⟩ = some u) (hc2 : w.cell? ⟨g, q + 1, none⟩ = some v)
    (hv : t i (.agg #[u, v]) w) (hf : fresh i = false) : Step ops t fresh P Q i o a w := by
  refine A_value hw _ ?_ hv hf
  cases hq : P.info? ty with
  | none => simp [hq] at hsz
  | some ii =>
    have hs : ii.size = 2 := by simpa [hq] using hsz
    simp [execOp, ho, hx, Instr.loadAt, Instr.sureAddr, loadVar, isAgg, run_underlying ht, sizeOf, typeInfo, hq, hs, loadCells, loadCellsFrom, run_load, Addr.add_lit, hc, hc2]
end
/-- A frame with some slots written. -/
def puts (a : Act) : List (Nat × Value) → Act
  | [] => a
  | (d, v) :: l => puts (a.put (some d) v) l
end Go.AnyFacts

namespace Go.Proofs.Ytdbfclfglpbpmaa.Sha
open Go.RowKit Go.Proofs.YtdbfclfglpbpmaaW.Hand Go.Proofs.YtdbfclfglpbpmaaW.PrintWords Go.Proofs.YtdbfclfglpbpmaaW.PrintLast Go.Proofs.YtdbfclfglpbpmaaW.PrintMore Go.Proofs.Ytdbfclfglpbpmaa.PF21 Go.Proofs.Ytdbfclfglpbpmaa.Base Go.Proofs.Ytdbfclfglpbpmaa.LF21
set_option linter.unusedVariables false
set_option linter.unusedSimpArgs false
end Go.Proofs.Ytdbfclfglpbpmaa.Sha

namespace Go.Proofs.Ytdbfclfglpbpmaa.Sha
open Go.AnyFacts Go.RowKit Go.Proofs.YtdbfclfglpbpmaaW.Hand Go.Proofs.YtdbfclfglpbpmaaW.PrintWords Go.Proofs.YtdbfclfglpbpmaaW.PrintLast Go.Proofs.YtdbfclfglpbpmaaW.PrintMore Go.Proofs.Ytdbfclfglpbpmaa.PF21 Go.Proofs.Ytdbfclfglpbpmaa.Base Go.Proofs.Ytdbfclfglpbpmaa.LF21
set_option linter.unusedVariables false
set_option linter.unusedSimpArgs false
end Go.Proofs.Ytdbfclfglpbpmaa.Sha

namespace Go.Proofs.Ytdbfclfglpbpmaa.Sha
open Go.AnyFacts Go.RowKit Go.Proofs.YtdbfclfglpbpmaaW.Hand Go.Proofs.YtdbfclfglpbpmaaW.PrintWords Go.Proofs.YtdbfclfglpbpmaaW.PrintLast Go.Proofs.YtdbfclfglpbpmaaW.PrintMore Go.Proofs.Ytdbfclfglpbpmaa.PF21 Go.Proofs.Ytdbfclfglpbpmaa.Base Go.Proofs.Ytdbfclfglpbpmaa.LF21
set_option linter.unusedVariables false
set_option linter.unusedSimpArgs false
theorem i64_of {x : Int} (h : (Lit.int .i64 x).wf = true) : -9223372036854775808 ≤ x ∧ x ≤ 9223372036854775807 := by
  have h' := h
  simp [Lit.wf] at h'
  exact ⟨h'.1, h'.2⟩
end Go.Proofs.Ytdbfclfglpbpmaa.Sha

