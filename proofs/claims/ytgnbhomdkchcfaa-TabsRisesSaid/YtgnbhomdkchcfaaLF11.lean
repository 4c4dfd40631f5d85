/- Plain lemmas on the functions of this family (TabsRises): what each loop comes to. No condition. -/
import Derived.Test.YtgnbhomdkchcfaaBase
import Derived.Test.YtgnbhomdkchcfaaPF11x
namespace Go.Proofs.Ytgnbhomdkchcfaa.LF11
open Go.RowKit Go.Proofs.Ytgnbhomdkchcfaa.Base Go.Proofs.YtgnbhomdkchcfaaW.PrintWords Go.Proofs.YtgnbhomdkchcfaaW.PrintMore Go.Proofs.Ytgnbhomdkchcfaa.PF11
set_option linter.unusedVariables false
set_option linter.unusedSimpArgs false

/-! ### the stops: rising columns -/
structure Srt (cols : Int) (l : List Int) : Prop where
  rise : l.Pairwise (· < ·)
  rng : ∀ x ∈ l, 0 ≤ x ∧ x < cols
  len : (l.length : Int) ≤ 100000
theorem rise_lt {l : List Int} (h : l.Pairwise (· < ·)) {i j : Nat} (hi : i < l.length) (hj : j < l.length) (hij : i < j) : l[i] < l[j] := List.pairwise_iff_getElem.1 h i j hi hj hij
/-- Where a number stands, or would. -/
structure At (l : List Int) (a : Int) (i : Nat) : Prop where
  le : i ≤ l.length
  lo : ∀ j (h : j < l.length), j < i → l[j] < a
  hi : ∀ j (h : j < l.length), i ≤ j → a ≤ l[j]
theorem Less_f (a b : Int) : cmp_Less_int.f a b = some (decide (a < b)) := by
  unfold cmp_Less_int.f cmp_isNaN_int.f
  simp
theorem BS_l0 (l : List Int) (a : Int) (hr : l.Pairwise (· < ·)) (hl : l.length ≤ 1000000) : ∀ (d lo hi : Nat), hi - lo = d → lo ≤ hi → hi ≤ l.length → (∀ j (h : j < l.length), j < lo → l[j] < a) → (∀ j (h : j < l.length), hi ≤ j → a ≤ l[j]) →
    ∃ i, At l a i ∧ Ev (fun k => slices_BinarySearch_int_int.l0 k l a (l.length : Int) (lo : Int) (hi : Int)) ((i : Int), decide (l[i]? = some a)) := by
  intro d
  induction d using Nat.strongRecOn with
  | ind d ih =>
    intro lo hi hd hle hhi h1 h2
    by_cases c : lo < hi
    · have hm : wrap64 ((IntKind.u64.wrap (wrap64 ((lo : Int) + (hi : Int)))) / 2) = (((lo + hi) / 2 : Nat) : Int) := by
        rw [w64 (x := (lo : Int) + (hi : Int)) (by omega) (by omega), u64 (by omega) (by omega), w64 (by omega) (by omega)]
        omega
      have hm1 : lo ≤ (lo + hi) / 2 := by omega
      have hm2 : (lo + hi) / 2 < hi := by omega
      generalize (lo + hi) / 2 = m at hm hm1 hm2
      have hml : m < l.length := by omega
      have hw : wrap64 ((m : Int) + 1) = ((m + 1 : Nat) : Int) := by rw [w64 (by omega) (by omega)]; omega
      by_cases c2 : l[m] < a
      · obtain ⟨i, hA, hE⟩ := ih (hi - (m + 1)) (by omega) (m + 1) hi rfl (by omega) hhi (fun j h hj => by
          by_cases e : j = m
          · subst e; exact c2
          · have := rise_lt hr h hml (by omega)
            omega) h2
        refine ⟨i, hA, ?_⟩
        apply ev_succ
        simp only [slices_BinarySearch_int_int.l0, if_pos (show (lo : Int) < (hi : Int) by omega), hm, if_pos (show (0 : Int) ≤ (m : Int) by omega), if_pos (show (m : Int) < (l.length : Int) by omega), rd_lt hml, Less_f, Option.bind_some, decide_eq_true c2, if_true, hw]
        exact hE
      · obtain ⟨i, hA, hE⟩ := ih (m - lo) (by omega) lo m rfl (by omega) (by omega) h1 (fun j h hj => by
          by_cases e : j = m
          · subst e; omega
          · have := rise_lt hr hml h (by omega)
            omega)
        refine ⟨i, hA, ?_⟩
        apply ev_succ
        simp only [slices_BinarySearch_int_int.l0, if_pos (show (lo : Int) < (hi : Int) by omega), hm, if_pos (show (0 : Int) ≤ (m : Int) by omega), if_pos (show (m : Int) < (l.length : Int) by omega), rd_lt hml, Less_f, Option.bind_some, decide_eq_false c2, Bool.false_eq_true, if_false]
        exact hE
    · obtain rfl : lo = hi := by omega
      refine ⟨lo, ⟨hhi, h1, h2⟩, ?_⟩
      apply ev_succ
      simp only [slices_BinarySearch_int_int.l0, if_neg (show ¬ (lo : Int) < (lo : Int) by omega)]
      by_cases c3 : (lo : Int) < (l.length : Int)
      · have hlt : lo < l.length := by omega
        simp only [if_pos c3, if_pos (show (0 : Int) ≤ (lo : Int) by omega), rd_lt hlt]
        by_cases c4 : l[lo] = a
        · simp only [if_pos c4]
          exact ev_eq (ev_some _) (by simp [List.getElem?_eq_getElem hlt, c4])
        · simp only [if_neg c4, slices_isNaN_int.f, Option.bind_some, bne_self_eq_false, Bool.false_eq_true, if_false]
          exact ev_eq (ev_some _) (by simp [List.getElem?_eq_getElem hlt, c4])
      · simp only [if_neg c3]
        exact ev_eq (ev_some _) (by simp [List.getElem?_eq_none (show l.length ≤ lo by omega)])
theorem BS_ev (l : List Int) (a : Int) (hr : l.Pairwise (· < ·)) (hl : l.length ≤ 1000000) : ∃ i, At l a i ∧ Ev (fun k => slices_BinarySearch_int_int.f k l a) ((i : Int), decide (l[i]? = some a)) := by
  unfold slices_BinarySearch_int_int.f
  exact BS_l0 l a hr hl l.length 0 l.length rfl (by omega) (by omega) (fun j h hj => absurd hj (by omega)) (fun j h hj => absurd hj (by omega))
theorem At.mem {l : List Int} {a : Int} {i : Nat} (h : At l a i) (hr : l.Pairwise (· < ·)) : a ∈ l ↔ l[i]? = some a := by
  constructor
  · intro hm
    obtain ⟨j, hj, e⟩ := List.getElem_of_mem hm
    have h1 : i ≤ j := Nat.le_of_not_lt (fun hlt => by have := h.lo j hj hlt; omega)
    have hi : i < l.length := by omega
    have h2 := h.hi i hi (Nat.le_refl _)
    by_cases e2 : i = j
    · subst e2; rw [List.getElem?_eq_getElem hj, e]
    · have := rise_lt hr hi hj (by omega)
      omega
  · intro hm
    exact List.mem_of_getElem? hm
theorem Set_ev (cols : Int) (l : List Int) (a : Int) (hS : Srt cols l) (hl : l.length ≤ 90000) : ∃ r, Ev (fun k => tabs_Stops_Set.f k cols l a) (cols, r) ∧ Srt cols r ∧ r.length ≤ l.length + 1 ∧ ∀ x, x ∈ r ↔ x ∈ l ∨ (x = a ∧ 0 ≤ a ∧ a < cols) := by
  obtain ⟨i, hA, hE⟩ := BS_ev l a hS.rise (by omega)
  by_cases c1 : a ≥ 0
  · by_cases c2 : a < cols
    · by_cases c3 : l[i]? = some a
      · refine ⟨l, ?_, hS, by omega, fun x => ?_⟩
        · unfold tabs_Stops_Set.f
          refine ev_bind hE ?_
          simp only [if_pos c1, if_pos c2, decide_eq_true c3, if_true]
          exact ev_some _
        · have hm := (hA.mem hS.rise).2 c3
          exact ⟨.inl, fun h => h.elim id (fun h => h.1 ▸ hm)⟩
      · have hnm : a ∉ l := fun hm => c3 ((hA.mem hS.rise).1 hm)
        have ht : ∀ x ∈ l.take i, x < a := fun x hx => by
          obtain ⟨j, hj, e⟩ := List.getElem_of_mem hx
          rw [List.length_take] at hj
          rw [List.getElem_take] at e
          rw [← e]
          exact hA.lo j (by omega) (by omega)
        have hd : ∀ x ∈ l.drop i, a < x := fun x hx => by
          have hx2 := List.mem_of_mem_drop hx
          obtain ⟨j, hj, e⟩ := List.getElem_of_mem hx
          rw [List.length_drop] at hj
          rw [List.getElem_drop] at e
          have h1 := hA.hi (i + j) (by omega) (by omega)
          have h2 : x ≠ a := fun e2 => hnm (e2 ▸ hx2)
          omega
        have hmem : ∀ x, x ∈ l.take i ++ [a] ++ l.drop i ↔ x ∈ l ∨ (x = a ∧ 0 ≤ a ∧ a < cols) := fun x => by
          have e : x ∈ l ↔ x ∈ l.take i ∨ x ∈ l.drop i := by
            conv => lhs; rw [← List.take_append_drop i l]
            exact List.mem_append
          rw [List.mem_append, List.mem_append, List.mem_singleton, e]
          constructor
          · rintro ((h | h) | h)
            · exact .inl (.inl h)
            · exact .inr ⟨h, c1, c2⟩
            · exact .inl (.inr h)
          · rintro ((h | h) | h)
            · exact .inl (.inl h)
            · exact .inr h
            · exact .inl (.inr h.1)
        have hlen : (l.take i ++ [a] ++ l.drop i).length = l.length + 1 := by
          have := hA.le
          simp
          omega
        refine ⟨l.take i ++ [a] ++ l.drop i, ?_, ⟨?_, fun x hx => ?_, by omega⟩, by omega, hmem⟩
        · unfold tabs_Stops_Set.f
          refine ev_bind hE ?_
          simp only [if_pos c1, if_pos c2, decide_eq_false c3, Bool.false_eq_true, if_false, slices_Insert_int_int.f]
          have hle := hA.le
          rw [if_pos ⟨by omega, by omega, rfl, by omega⟩]
          exact ev_some _
        · rw [List.append_assoc]
          refine List.pairwise_append.2 ⟨hS.rise.sublist (List.take_sublist i l), List.pairwise_append.2 ⟨List.pairwise_singleton _ _, hS.rise.sublist (List.drop_sublist i l), fun x hx y hy => ?_⟩, fun x hx y hy => ?_⟩
          · rw [List.mem_singleton.1 hx]; exact hd y hy
          · have h1 := ht x hx
            rcases List.mem_append.1 hy with h | h
            · rw [List.mem_singleton.1 h]; exact h1
            · exact Int.lt_trans h1 (hd y h)
        · rcases (hmem x).1 hx with h | h
          · exact hS.rng x h
          · rw [h.1]; exact h.2
    · refine ⟨l, ?_, hS, by omega, fun x => ⟨.inl, fun h => h.elim id (fun h => absurd h.2.2 c2)⟩⟩
      unfold tabs_Stops_Set.f
      refine ev_bind hE ?_
      simp only [if_pos c1, if_neg c2]
      exact ev_some _
  · refine ⟨l, ?_, hS, by omega, fun x => ⟨.inl, fun h => h.elim id (fun h => absurd h.2.1 c1)⟩⟩
    unfold tabs_Stops_Set.f
    refine ev_bind hE ?_
    simp only [if_neg c1]
    exact ev_some _
theorem Resize_l0 (was cols : Int) (h0 : 0 ≤ was) (hw : was ≤ 132) (hc : cols ≤ 132) : ∀ (d : Nat) (c : Int) (l : List Int), (132 - c).toNat + 8 ≤ d * 8 → 8 ≤ c → c ≤ 140 → c % 8 = 0 → Srt cols l → l.length + d ≤ 80000 →
    ∃ r, Ev (fun k => tabs_Stops_Resize.l0 k was c cols l cols) (0, cols, r) ∧ Srt cols r ∧ r.length ≤ l.length + d ∧ ∀ x, x ∈ r ↔ x ∈ l ∨ (was ≤ x ∧ c ≤ x ∧ x % 8 = 0 ∧ x < cols) := by
  intro d
  induction d with
  | zero => intro c l hd; omega
  | succ d ih =>
    intro c l hd h8 h140 hm hS hl
    by_cases c1 : c < cols
    · have hwr : wrap64 (c + 8) = c + 8 := w64 (by omega) (by omega)
      by_cases c2 : c ≥ was
      · obtain ⟨r1, e1, s1, n1, m1⟩ := Set_ev cols l c hS (by omega)
        obtain ⟨r, e, s, n, m⟩ := ih (c + 8) r1 (by omega) (by omega) (by omega) (by omega) s1 (by omega)
        refine ⟨r, ?_, s, by omega, fun x => ?_⟩
        · apply ev_succ
          simp only [tabs_Stops_Resize.l0, if_pos c1, if_pos c2, hwr]
          exact ev_bind e1 e
        · rw [m, m1]
          constructor
          · rintro ((h | h) | h)
            · exact .inl h
            · exact .inr (by omega)
            · exact .inr (by omega)
          · rintro (h | h)
            · exact .inl (.inl h)
            · by_cases e : x = c
              · exact .inl (.inr (by omega))
              · exact .inr (by omega)
      · obtain ⟨r, e, s, n, m⟩ := ih (c + 8) l (by omega) (by omega) (by omega) (by omega) hS (by omega)
        refine ⟨r, ?_, s, by omega, fun x => ?_⟩
        · apply ev_succ
          simp only [tabs_Stops_Resize.l0, if_pos c1, if_neg c2, hwr]
          exact e
        · rw [m]
          constructor
          · rintro (h | h)
            · exact .inl h
            · exact .inr (by omega)
          · rintro (h | h)
            · exact .inl h
            · exact .inr (by omega)
    · refine ⟨l, ?_, hS, by omega, fun x => ⟨.inl, fun h => h.elim id (fun h => absurd h (by omega))⟩⟩
      apply ev_succ
      simp only [tabs_Stops_Resize.l0, if_neg c1]
      exact ev_some _
theorem size_f (c : Int) : tabs_size.f c = some (decide (1 ≤ c ∧ c ≤ 132)) := by
  unfold tabs_size.f
  by_cases h : c ≥ 1
  · rw [if_pos h]
    exact congrArg some (decide_eq_decide.2 ⟨fun h2 => ⟨h, h2⟩, fun h2 => h2.2⟩)
  · rw [if_neg h]
    exact congrArg some (decide_eq_false (fun h2 => h h2.1)).symm
theorem Resize_ok (was cols : Int) (l : List Int) (h0 : 0 ≤ was) (hw : was ≤ 132) (hc0 : 1 ≤ cols) (hc : cols ≤ 132) (hS : Srt was l) (hl : l.length ≤ 70000) : ∃ r, Ev (fun k => tabs_Stops_Resize.f k was l cols) (0, cols, r) ∧ Srt cols r ∧ r.length ≤ l.length + 20 ∧ ∀ x, x ∈ r ↔ (x ∈ l ∧ x < cols) ∨ (was ≤ x ∧ 8 ≤ x ∧ x % 8 = 0 ∧ x < cols) := by
  have hf : ∀ x, x ∈ l.filter (fun x => !decide (cols ≤ x)) ↔ x ∈ l ∧ x < cols := fun x => by
    rw [List.mem_filter]
    simp
  have hfl := List.length_filter_le (fun x => !decide (cols ≤ x)) l
  obtain ⟨r, e, s, n, m⟩ := Resize_l0 was cols h0 hw hc 17 8 (l.filter (fun x => !decide (cols ≤ x))) (by omega) (by omega) (by omega) (by omega) ⟨hS.rise.sublist List.filter_sublist, fun x hx => ⟨(hS.rng x ((hf x).1 hx).1).1, ((hf x).1 hx).2⟩, by have := hS.len; omega⟩ (by omega)
  refine ⟨r, ?_, s, by omega, fun x => by rw [m, hf]⟩
  unfold tabs_Stops_Resize.f
  simp only [size_f, Option.bind_some, decide_eq_true (show 1 ≤ cols ∧ cols ≤ 132 from ⟨hc0, hc⟩), if_true, slices_DeleteFunc_int_int.f]
  exact e
theorem New_ok (cols : Int) (hc0 : 1 ≤ cols) (hc : cols ≤ 132) : ∃ r, Ev (fun k => tabs_New.f k cols) (true, cols, r, 0) ∧ Srt cols r ∧ r.length ≤ 20 ∧ ∀ x, x ∈ r ↔ (8 ≤ x ∧ x % 8 = 0 ∧ x < cols) := by
  obtain ⟨r, e, s, n, m⟩ := Resize_ok 0 cols [] (by omega) (by omega) hc0 hc ⟨List.Pairwise.nil, by simp, by simp⟩ (by simp)
  refine ⟨r, ?_, s, by simpa using n, fun x => ?_⟩
  · unfold tabs_New.f
    simp only [size_f, Option.bind_some, decide_eq_true (show 1 ≤ cols ∧ cols ≤ 132 from ⟨hc0, hc⟩), if_true]
    refine ev_bind e ?_
    exact ev_some _
  · rw [m]
    constructor
    · rintro (h | h)
      · simp at h
      · omega
    · intro h
      exact .inr (by omega)
/-- One stop on. -/
def Nx (cols : Int) (l : List Int) (c c' : Int) : Prop := c < c' ∧ c' < cols ∧ (c' = cols - 1 ∨ c' ∈ l) ∧ ∀ x ∈ l, c < x → c' ≤ x
theorem Next_step (cols : Int) (l : List Int) (hS : Srt cols l) (hl : l.length ≤ 90000) (hc : cols ≤ 132) (c n : Int) (hn : 0 < n) (hn2 : n ≤ 9223372036854775807) (h0 : 0 ≤ c) (h1 : c < cols - 1) : ∃ c', Nx cols l c c' ∧ ∀ r, Ev (fun k => tabs_Stops_Next.l0 k c' (n - 1) cols l) r → Ev (fun k => tabs_Stops_Next.l0 k c n cols l) r := by
  obtain ⟨i, hA, hE⟩ := BS_ev l c hS.rise (by omega)
  have hwc : wrap64 (cols - 1) = cols - 1 := w64 (by omega) (by omega)
  have hwn : wrap64 (n - 1) = n - 1 := w64 (by omega) (by omega)
  have hwi : wrap64 ((i : Int) + 1) = ((i + 1 : Nat) : Int) := by have := hA.le; rw [w64 (by omega) (by omega)]; omega
  have go : ∀ c' r, Ev (fun k => tabs_Stops_Next.l0 k c' (n - 1) cols l) r → (∀ k, ((if decide (l[i]? = some c) = true then (if ((i + 1 : Nat) : Int) < (l.length : Int) then (if (0 : Int) ≤ ((i + 1 : Nat) : Int) then tabs_Stops_Next.l0 k (rd l ((i + 1 : Nat) : Int)) (n - 1) cols l else none) else tabs_Stops_Next.l0 k (cols - 1) (n - 1) cols l) else (if (i : Int) < (l.length : Int) then (if (0 : Int) ≤ (i : Int) then tabs_Stops_Next.l0 k (rd l (i : Int)) (n - 1) cols l else none) else tabs_Stops_Next.l0 k (cols - 1) (n - 1) cols l)) = tabs_Stops_Next.l0 k c' (n - 1) cols l)) → Ev (fun k => tabs_Stops_Next.l0 k c n cols l) r := fun c' r hr he => by
    apply ev_succ
    simp only [tabs_Stops_Next.l0, if_pos (show n > 0 from hn), hwc, decide_eq_true h1]
    apply ev_succ
    simp only [tabs_Stops_Next.j1, if_true, hwc, hwn]
    refine ev_bind hE ?_
    simp only [hwi, he]
    exact hr
  by_cases c3 : l[i]? = some c
  · have hlt : i < l.length := by
      rcases List.getElem?_eq_some_iff.1 c3 with ⟨h, _⟩
      exact h
    have hli : l[i] = c := (List.getElem?_eq_some_iff.1 c3).2
    by_cases c4 : i + 1 < l.length
    · refine ⟨l[i + 1], ⟨?_, (hS.rng _ (List.getElem_mem c4)).2, .inr (List.getElem_mem c4), fun x hx hcx => ?_⟩, fun r hr => go _ r hr (fun k => ?_)⟩
      · rw [← hli]; exact rise_lt hS.rise hlt c4 (by omega)
      · obtain ⟨j, hj, e⟩ := List.getElem_of_mem hx
        by_cases e2 : j ≤ i
        · exfalso
          by_cases e3 : j = i
          · subst e3; omega
          · have := rise_lt hS.rise hj hlt (by omega)
            omega
        · by_cases e3 : j = i + 1
          · subst e3; omega
          · have := rise_lt hS.rise c4 hj (by omega)
            omega
      · rw [if_pos (decide_eq_true c3), if_pos (by omega), if_pos (by omega), rd_lt c4]
    · refine ⟨cols - 1, ⟨h1, by omega, .inl rfl, fun x hx hcx => ?_⟩, fun r hr => go _ r hr (fun k => ?_)⟩
      · exfalso
        obtain ⟨j, hj, e⟩ := List.getElem_of_mem hx
        by_cases e3 : j = i
        · subst e3; omega
        · have := rise_lt hS.rise hj hlt (by omega)
          omega
      · rw [if_pos (decide_eq_true c3), if_neg (by omega)]
  · by_cases c4 : i < l.length
    · have hgt : c < l[i] := by
        have h2 := hA.hi i c4 (Nat.le_refl _)
        have h3 : l[i] ≠ c := fun e => c3 (by rw [List.getElem?_eq_getElem c4, e])
        omega
      refine ⟨l[i], ⟨hgt, (hS.rng _ (List.getElem_mem c4)).2, .inr (List.getElem_mem c4), fun x hx hcx => ?_⟩, fun r hr => go _ r hr (fun k => ?_)⟩
      · obtain ⟨j, hj, e⟩ := List.getElem_of_mem hx
        by_cases e2 : j < i
        · have := hA.lo j hj e2; omega
        · by_cases e3 : j = i
          · subst e3; omega
          · have := rise_lt hS.rise c4 hj (by omega)
            omega
      · rw [if_neg (by simp [c3]), if_pos (by omega), if_pos (by omega), rd_lt c4]
    · refine ⟨cols - 1, ⟨h1, by omega, .inl rfl, fun x hx hcx => ?_⟩, fun r hr => go _ r hr (fun k => ?_)⟩
      · exfalso
        obtain ⟨j, hj, e⟩ := List.getElem_of_mem hx
        have := hA.lo j hj (by omega)
        omega
      · rw [if_neg (by simp [c3]), if_neg (by omega)]
theorem Next_end (cols : Int) (l : List Int) (hc0 : 1 ≤ cols) (hc : cols ≤ 132) (c n : Int) (h : ¬ (0 < n ∧ c < cols - 1)) : Ev (fun k => tabs_Stops_Next.l0 k c n cols l) (c, cols, l) := by
  have hwc : wrap64 (cols - 1) = cols - 1 := w64 (by omega) (by omega)
  have fin : Ev (fun k => tabs_Stops_Next.j1 k c n false cols l) (c, cols, l) := by
    apply ev_succ
    simp only [tabs_Stops_Next.j1, Bool.false_eq_true, if_false]
    exact ev_some _
  apply ev_succ
  by_cases c1 : n > 0
  · simp only [tabs_Stops_Next.l0, if_pos c1, hwc, decide_eq_false (show ¬ c < cols - 1 from fun h2 => h ⟨c1, h2⟩)]
    exact fin
  · simp only [tabs_Stops_Next.l0, if_neg c1]
    exact fin
/-- One stop back. -/
def Bk (l : List Int) (c c' : Int) : Prop := c' < c ∧ 0 ≤ c' ∧ (c' = 0 ∨ c' ∈ l) ∧ ∀ x ∈ l, x < c → x ≤ c'
theorem Back_step (cols : Int) (l : List Int) (hS : Srt cols l) (hl : l.length ≤ 90000) (c n : Int) (hn : 0 < n) (hn2 : n ≤ 9223372036854775807) (h0 : 0 < c) : ∃ c', Bk l c c' ∧ ∀ r, Ev (fun k => tabs_Stops_Back.l0 k c' (n - 1) cols l) r → Ev (fun k => tabs_Stops_Back.l0 k c n cols l) r := by
  obtain ⟨i, hA, hE⟩ := BS_ev l c hS.rise (by omega)
  have hwn : wrap64 (n - 1) = n - 1 := w64 (by omega) (by omega)
  have hile := hA.le
  by_cases c1 : 0 < i
  · have hlt : i - 1 < l.length := by omega
    have hwi : wrap64 ((i : Int) - 1) = ((i - 1 : Nat) : Int) := by rw [w64 (by omega) (by omega)]; omega
    refine ⟨l[i - 1], ⟨hA.lo (i - 1) hlt (by omega), (hS.rng _ (List.getElem_mem hlt)).1, .inr (List.getElem_mem hlt), fun x hx hcx => ?_⟩, fun r hr => ?_⟩
    · obtain ⟨j, hj, e⟩ := List.getElem_of_mem hx
      by_cases e2 : i ≤ j
      · have := hA.hi j hj e2; omega
      · by_cases e3 : j = i - 1
        · subst e3; omega
        · have := rise_lt hS.rise hj hlt (by omega)
          omega
    · apply ev_succ
      simp only [tabs_Stops_Back.l0, if_pos (show n > 0 from hn), decide_eq_true (show c > 0 from h0)]
      apply ev_succ
      simp only [tabs_Stops_Back.j1, if_true, hwn]
      refine ev_bind hE ?_
      simp only [if_pos (show (i : Int) > 0 by omega), hwi, if_pos (show (0 : Int) ≤ ((i - 1 : Nat) : Int) by omega), if_pos (show ((i - 1 : Nat) : Int) < (l.length : Int) by omega), rd_lt hlt]
      exact hr
  · refine ⟨0, ⟨h0, by omega, .inl rfl, fun x hx hcx => ?_⟩, fun r hr => ?_⟩
    · exfalso
      obtain ⟨j, hj, e⟩ := List.getElem_of_mem hx
      have := hA.hi j hj (by omega)
      omega
    · apply ev_succ
      simp only [tabs_Stops_Back.l0, if_pos (show n > 0 from hn), decide_eq_true (show c > 0 from h0)]
      apply ev_succ
      simp only [tabs_Stops_Back.j1, if_true, hwn]
      refine ev_bind hE ?_
      simp only [if_neg (show ¬ (i : Int) > 0 by omega)]
      exact hr
theorem Back_end (cols : Int) (l : List Int) (c n : Int) (h : ¬ (0 < n ∧ 0 < c)) : Ev (fun k => tabs_Stops_Back.l0 k c n cols l) (c, cols, l) := by
  have fin : Ev (fun k => tabs_Stops_Back.j1 k c n false cols l) (c, cols, l) := by
    apply ev_succ
    simp only [tabs_Stops_Back.j1, Bool.false_eq_true, if_false]
    exact ev_some _
  apply ev_succ
  by_cases c1 : n > 0
  · simp only [tabs_Stops_Back.l0, if_pos c1, decide_eq_false (show ¬ c > 0 from fun h2 => h ⟨c1, h2⟩)]
    exact fin
  · simp only [tabs_Stops_Back.l0, if_neg c1]
    exact fin
theorem List_ok (cols : Int) (l : List Int) (hl : l.length ≤ 1000000) : tabs_Stops_List.f cols l = some (l, cols, l) := by
  unfold tabs_Stops_List.f slices_Clone_int_int.f
  rw [if_pos (by omega)]
  rfl

end Go.Proofs.Ytgnbhomdkchcfaa.LF11
