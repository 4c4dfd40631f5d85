/- Plain lemmas on the functions of this family (TabsMoves): what each loop comes to. No condition. -/
import Derived.Test.YtgnbhomdkchcfaaBase
import Derived.Test.YtgnbhomdkchcfaaPF11Mx
namespace Go.Proofs.Ytgnbhomdkchcfaa.LF11M
open Go.RowKit Go.Proofs.Ytgnbhomdkchcfaa.Base Go.Proofs.YtgnbhomdkchcfaaW.PrintWords Go.Proofs.YtgnbhomdkchcfaaW.PrintMore Go.Proofs.Ytgnbhomdkchcfaa.PF11M
set_option linter.unusedVariables false
set_option linter.unusedSimpArgs false

/-! ### the stops: rising columns -/
structure Srt (cols : Int) (l : List Int) : Prop where
  rise : l.Pairwise (· < ·)
  rng : ∀ x ∈ l, 0 ≤ x ∧ x < cols
  len : (l.length : Int) ≤ 100000
theorem rise_lt {l : List Int} (h : l.Pairwise (· < ·)) {i j : Nat} (hi : i < l.length) (hj : j < l.length) (hij : i < j) : l[i] < l[j] := List.pairwise_iff_getElem.1 h i j hi hj hij
/-- Where a number stands, or would. -/
structure At (l : List Int) (a : Int) (i : Nat) : Prop where
  le : i ≤ l.length
  lo : ∀ j (h : j < l.length), j < i → l[j] < a
  hi : ∀ j (h : j < l.length), i ≤ j → a ≤ l[j]
theorem Less_f (a b : Int) : cmp_Less_int.f a b = some (decide (a < b)) := by
  unfold cmp_Less_int.f cmp_isNaN_int.f
  simp
theorem BS_l0 (l : List Int) (a : Int) (hr : l.Pairwise (· < ·)) (hl : l.length ≤ 1000000) : ∀ (d lo hi : Nat), hi - lo = d → lo ≤ hi → hi ≤ l.length → (∀ j (h : j < l.length), j < lo → l[j] < a) → (∀ j (h : j < l.length), hi ≤ j → a ≤ l[j]) →
    ∃ i, At l a i ∧ Ev (fun k => slices_BinarySearch_int_int.l0 k l a (l.length : Int) (lo : Int) (hi : Int)) ((i : Int), decide (l[i]? = some a)) := by
  intro d
  induction d using Nat.strongRecOn with
  | ind d ih =>
    intro lo hi hd hle hhi h1 h2
    by_cases c : lo < hi
    · have hm : wrap64 ((IntKind.u64.wrap (wrap64 ((lo : Int) + (hi : Int)))) / 2) = (((lo + hi) / 2 : Nat) : Int) := by
        rw [w64 (x := (lo : Int) + (hi : Int)) (by omega) (by omega), u64 (by omega) (by omega), w64 (by omega) (by omega)]
        omega
      have hm1 : lo ≤ (lo + hi) / 2 := by omega
      have hm2 : (lo + hi) / 2 < hi := by omega
      generalize (lo + hi) / 2 = m at hm hm1 hm2
      have hml : m < l.length := by omega
      have hw : wrap64 ((m : Int) + 1) = ((m + 1 : Nat) : Int) := by rw [w64 (by omega) (by omega)]; omega
      by_cases c2 : l[m] < a
      · obtain ⟨i, hA, hE⟩ := ih (hi - (m + 1)) (by omega) (m + 1) hi rfl (by omega) hhi (fun j h hj => by
          by_cases e : j = m
          · subst e; exact c2
          · have := rise_lt hr h hml (by omega)
            omega) h2
        refine ⟨i, hA, ?_⟩
        apply ev_succ
        simp only [slices_BinarySearch_int_int.l0, if_pos (show (lo : Int) < (hi : Int) by omega), hm, if_pos (show (0 : Int) ≤ (m : Int) by omega), if_pos (show (m : Int) < (l.length : Int) by omega), rd_lt hml, Less_f, Option.bind_some, decide_eq_true c2, if_true, hw]
        exact hE
      · obtain ⟨i, hA, hE⟩ := ih (m - lo) (by omega) lo m rfl (by omega) (by omega) h1 (fun j h hj => by
          by_cases e : j = m
          · subst e; omega
          · have := rise_lt hr hml h (by omega)
            omega)
        refine ⟨i, hA, ?_⟩
        apply ev_succ
        simp only [slices_BinarySearch_int_int.l0, if_pos (show (lo : Int) < (hi : Int) by omega), hm, if_pos (show (0 : Int) ≤ (m : Int) by omega), if_pos (show (m : Int) < (l.length : Int) by omega), rd_lt hml, Less_f, Option.bind_some, decide_eq_false c2, Bool.false_eq_true, if_false]
        exact hE
    · obtain rfl : lo = hi := by omega
      refine ⟨lo, ⟨hhi, h1, h2⟩, ?_⟩
      apply ev_succ
      simp only [slices_BinarySearch_int_int.l0, if_neg (show ¬ (lo : Int) < (lo : Int) by omega)]
      by_cases c3 : (lo : Int) < (l.length : Int)
      · have hlt : lo < l.length := by omega
        simp only [if_pos c3, if_pos (show (0 : Int) ≤ (lo : Int) by omega), rd_lt hlt]
        by_cases c4 : l[lo] = a
        · simp only [if_pos c4]
          exact ev_eq (ev_some _) (by simp [List.getElem?_eq_getElem hlt, c4])
        · simp only [if_neg c4, slices_isNaN_int.f, Option.bind_some, bne_self_eq_false, Bool.false_eq_true, if_false]
          exact ev_eq (ev_some _) (by simp [List.getElem?_eq_getElem hlt, c4])
      · simp only [if_neg c3]
        exact ev_eq (ev_some _) (by simp [List.getElem?_eq_none (show l.length ≤ lo by omega)])
theorem BS_ev (l : List Int) (a : Int) (hr : l.Pairwise (· < ·)) (hl : l.length ≤ 1000000) : ∃ i, At l a i ∧ Ev (fun k => slices_BinarySearch_int_int.f k l a) ((i : Int), decide (l[i]? = some a)) := by
  unfold slices_BinarySearch_int_int.f
  exact BS_l0 l a hr hl l.length 0 l.length rfl (by omega) (by omega) (fun j h hj => absurd hj (by omega)) (fun j h hj => absurd hj (by omega))
theorem At.mem {l : List Int} {a : Int} {i : Nat} (h : At l a i) (hr : l.Pairwise (· < ·)) : a ∈ l ↔ l[i]? = some a := by
  constructor
  · intro hm
    obtain ⟨j, hj, e⟩ := List.getElem_of_mem hm
    have h1 : i ≤ j := Nat.le_of_not_lt (fun hlt => by have := h.lo j hj hlt; omega)
    have hi : i < l.length := by omega
    have h2 := h.hi i hi (Nat.le_refl _)
    by_cases e2 : i = j
    · subst e2; rw [List.getElem?_eq_getElem hj, e]
    · have := rise_lt hr hi hj (by omega)
      omega
  · intro hm
    exact List.mem_of_getElem? hm
theorem Set_ev (cols : Int) (l : List Int) (a : Int) (hS : Srt cols l) (hl : l.length ≤ 90000) : ∃ r, Ev (fun k => tabs_Stops_Set.f k cols l a) (cols, r) ∧ Srt cols r ∧ r.length ≤ l.length + 1 ∧ ∀ x, x ∈ r ↔ x ∈ l ∨ (x = a ∧ 0 ≤ a ∧ a < cols) := by
  obtain ⟨i, hA, hE⟩ := BS_ev l a hS.rise (by omega)
  by_cases c1 : a ≥ 0
  · by_cases c2 : a < cols
    · by_cases c3 : l[i]? = some a
      · refine ⟨l, ?_, hS, by omega, fun x => ?_⟩
        · unfold tabs_Stops_Set.f
          refine ev_bind hE ?_
          simp only [if_pos c1, if_pos c2, decide_eq_true c3, if_true]
          exact ev_some _
        · have hm := (hA.mem hS.rise).2 c3
          exact ⟨.inl, fun h => h.elim id (fun h => h.1 ▸ hm)⟩
      · have hnm : a ∉ l := fun hm => c3 ((hA.mem hS.rise).1 hm)
        have ht : ∀ x ∈ l.take i, x < a := fun x hx => by
          obtain ⟨j, hj, e⟩ := List.getElem_of_mem hx
          rw [List.length_take] at hj
          rw [List.getElem_take] at e
          rw [← e]
          exact hA.lo j (by omega) (by omega)
        have hd : ∀ x ∈ l.drop i, a < x := fun x hx => by
          have hx2 := List.mem_of_mem_drop hx
          obtain ⟨j, hj, e⟩ := List.getElem_of_mem hx
          rw [List.length_drop] at hj
          rw [List.getElem_drop] at e
          have h1 := hA.hi (i + j) (by omega) (by omega)
          have h2 : x ≠ a := fun e2 => hnm (e2 ▸ hx2)
          omega
        have hmem : ∀ x, x ∈ l.take i ++ [a] ++ l.drop i ↔ x ∈ l ∨ (x = a ∧ 0 ≤ a ∧ a < cols) := fun x => by
          have e : x ∈ l ↔ x ∈ l.take i ∨ x ∈ l.drop i := by
            conv => lhs; rw [← List.take_append_drop i l]
            exact List.mem_append
          rw [List.mem_append, List.mem_append, List.mem_singleton, e]
          constructor
          · rintro ((h | h) | h)
            · exact .inl (.inl h)
            · exact .inr ⟨h, c1, c2⟩
            · exact .inl (.inr h)
          · rintro ((h | h) | h)
            · exact .inl (.inl h)
            · exact .inr h
            · exact .inl (.inr h.1)
        have hlen : (l.take i ++ [a] ++ l.drop i).length = l.length + 1 := by
          have := hA.le
          simp
          omega
        refine ⟨l.take i ++ [a] ++ l.drop i, ?_, ⟨?_, fun x hx => ?_, by omega⟩, by omega, hmem⟩
        · unfold tabs_Stops_Set.f
          refine ev_bind hE ?_
          simp only [if_pos c1, if_pos c2, decide_eq_false c3, Bool.false_eq_true, if_false, slices_Insert_int_int.f]
          have hle := hA.le
          rw [if_pos ⟨by omega, by omega, rfl, by omega⟩]
          exact ev_some _
        · rw [List.append_assoc]
          refine List.pairwise_append.2 ⟨hS.rise.sublist (List.take_sublist i l), List.pairwise_append.2 ⟨List.pairwise_singleton _ _, hS.rise.sublist (List.drop_sublist i l), fun x hx y hy => ?_⟩, fun x hx y hy => ?_⟩
          · rw [List.mem_singleton.1 hx]; exact hd y hy
          · have h1 := ht x hx
            rcases List.mem_append.1 hy with h | h
            · rw [List.mem_singleton.1 h]; exact h1
            · exact Int.lt_trans h1 (hd y h)
        · rcases (hmem x).1 hx with h | h
          · exact hS.rng x h
          · rw [h.1]; exact h.2
    · refine ⟨l, ?_, hS, by omega, fun x => ⟨.inl, fun h => h.elim id (fun h => absurd h.2.2 c2)⟩⟩
      unfold tabs_Stops_Set.f
      refine ev_bind hE ?_
      simp only [if_pos c1, if_neg c2]
      exact ev_some _
  · refine ⟨l, ?_, hS, by omega, fun x => ⟨.inl, fun h => h.elim id (fun h => absurd h.2.1 c1)⟩⟩
    unfold tabs_Stops_Set.f
    refine ev_bind hE ?_
    simp only [if_neg c1]
    exact ev_some _
theorem Resize_l0 (was cols : Int) (h0 : 0 ≤ was) (hw : was ≤ 132) (hc : cols ≤ 132) : ∀ (d : Nat) (c : Int) (l : List Int), (132 - c).toNat + 8 ≤ d * 8 → 8 ≤ c → c ≤ 140 → c % 8 = 0 → Srt cols l → l.length + d ≤ 80000 →
    ∃ r, Ev (fun k => tabs_Stops_Resize.l0 k was c cols l cols) (0, cols, r) ∧ Srt cols r ∧ r.length ≤ l.length + d ∧ ∀ x, x ∈ r ↔ x ∈ l ∨ (was ≤ x ∧ c ≤ x ∧ x % 8 = 0 ∧ x < cols) := by
  intro d
  induction d with
  | zero => intro c l hd; omega
  | succ d ih =>
    intro c l hd h8 h140 hm hS hl
    by_cases c1 : c < cols
    · have hwr : wrap64 (c + 8) = c + 8 := w64 (by omega) (by omega)
      by_cases c2 : c ≥ was
      · obtain ⟨r1, e1, s1, n1, m1⟩ := Set_ev cols l c hS (by omega)
        obtain ⟨r, e, s, n, m⟩ := ih (c + 8) r1 (by omega) (by omega) (by omega) (by omega) s1 (by omega)
        refine ⟨r, ?_, s, by omega, fun x => ?_⟩
        · apply ev_succ
          simp only [tabs_Stops_Resize.l0, if_pos c1, if_pos c2, hwr]
          exact ev_bind e1 e
        · rw [m, m1]
          constructor
          · rintro ((h | h) | h)
            · exact .inl h
            · exact .inr (by omega)
            · exact .inr (by omega)
          · rintro (h | h)
            · exact .inl (.inl h)
            · by_cases e : x = c
              · exact .inl (.inr (by omega))
              · exact .inr (by omega)
      · obtain ⟨r, e, s, n, m⟩ := ih (c + 8) l (by omega) (by omega) (by omega) (by omega) hS (by omega)
        refine ⟨r, ?_, s, by omega, fun x => ?_⟩
        · apply ev_succ
          simp only [tabs_Stops_Resize.l0, if_pos c1, if_neg c2, hwr]
          exact e
        · rw [m]
          constructor
          · rintro (h | h)
            · exact .inl h
            · exact .inr (by omega)
          · rintro (h | h)
            · exact .inl h
            · exact .inr (by omega)
    · refine ⟨l, ?_, hS, by omega, fun x => ⟨.inl, fun h => h.elim id (fun h => absurd h (by omega))⟩⟩
      apply ev_succ
      simp only [tabs_Stops_Resize.l0, if_neg c1]
      exact ev_some _
theorem size_f (c : Int) : tabs_size.f c = some (decide (1 ≤ c ∧ c ≤ 132)) := by
  unfold tabs_size.f
  by_cases h : c ≥ 1
  · rw [if_pos h]
    exact congrArg some (decide_eq_decide.2 ⟨fun h2 => ⟨h, h2⟩, fun h2 => h2.2⟩)
  · rw [if_neg h]
    exact congrArg some (decide_eq_false (fun h2 => h h2.1)).symm
theorem Resize_ok (was cols : Int) (l : List Int) (h0 : 0 ≤ was) (hw : was ≤ 132) (hc0 : 1 ≤ cols) (hc : cols ≤ 132) (hS : Srt was l) (hl : l.length ≤ 70000) : ∃ r, Ev (fun k => tabs_Stops_Resize.f k was l cols) (0, cols, r) ∧ Srt cols r ∧ r.length ≤ l.length + 20 ∧ ∀ x, x ∈ r ↔ (x ∈ l ∧ x < cols) ∨ (was ≤ x ∧ 8 ≤ x ∧ x % 8 = 0 ∧ x < cols) := by
  have hf : ∀ x, x ∈ l.filter (fun x => !decide (cols ≤ x)) ↔ x ∈ l ∧ x < cols := fun x => by
    rw [List.mem_filter]
    simp
  have hfl := List.length_filter_le (fun x => !decide (cols ≤ x)) l
  obtain ⟨r, e, s, n, m⟩ := Resize_l0 was cols h0 hw hc 17 8 (l.filter (fun x => !decide (cols ≤ x))) (by omega) (by omega) (by omega) (by omega) ⟨hS.rise.sublist List.filter_sublist, fun x hx => ⟨(hS.rng x ((hf x).1 hx).1).1, ((hf x).1 hx).2⟩, by have := hS.len; omega⟩ (by omega)
  refine ⟨r, ?_, s, by omega, fun x => by rw [m, hf]⟩
  unfold tabs_Stops_Resize.f
  simp only [size_f, Option.bind_some, decide_eq_true (show 1 ≤ cols ∧ cols ≤ 132 from ⟨hc0, hc⟩), if_true, slices_DeleteFunc_int_int.f]
  exact e
theorem New_ok (cols : Int) (hc0 : 1 ≤ cols) (hc : cols ≤ 132) : ∃ r, Ev (fun k => tabs_New.f k cols) (true, cols, r, 0) ∧ Srt cols r ∧ r.length ≤ 20 ∧ ∀ x, x ∈ r ↔ (8 ≤ x ∧ x % 8 = 0 ∧ x < cols) := by
  obtain ⟨r, e, s, n, m⟩ := Resize_ok 0 cols [] (by omega) (by omega) hc0 hc ⟨List.Pairwise.nil, by simp, by simp⟩ (by simp)
  refine ⟨r, ?_, s, by simpa using n, fun x => ?_⟩
  · unfold tabs_New.f
    simp only [size_f, Option.bind_some, decide_eq_true (show 1 ≤ cols ∧ cols ≤ 132 from ⟨hc0, hc⟩), if_true]
    refine ev_bind e ?_
    exact ev_some _
  · rw [m]
    constructor
    · rintro (h | h)
      · simp at h
      · omega
    · intro h
      exact .inr (by omega)
/-- One stop on. -/
def Nx (cols : Int) (l : List Int) (c c' : Int) : Prop := c < c' ∧ c' < cols ∧ (c' = cols - 1 ∨ c' ∈ l) ∧ ∀ x ∈ l, c < x → c' ≤ x
theorem Next_step (cols : Int) (l : List Int) (hS : Srt cols l) (hl : l.length ≤ 90000) (hc : cols ≤ 132) (c n : Int) (hn : 0 < n) (hn2 : n ≤ 9223372036854775807) (h0 : 0 ≤ c) (h1 : c < cols - 1) : ∃ c', Nx cols l c c' ∧ ∀ r, Ev (fun k => tabs_Stops_Next.l0 k c' (n - 1) cols l) r → Ev (fun k => tabs_Stops_Next.l0 k c n cols l) r := by
  obtain ⟨i, hA, hE⟩ := BS_ev l c hS.rise (by omega)
  have hwc : wrap64 (cols - 1) = cols - 1 := w64 (by omega) (by omega)
  have hwn : wrap64 (n - 1) = n - 1 := w64 (by omega) (by omega)
  have hwi : wrap64 ((i : Int) + 1) = ((i + 1 : Nat) : Int) := by have := hA.le; rw [w64 (by omega) (by omega)]; omega
  have go : ∀ c' r, Ev (fun k => tabs_Stops_Next.l0 k c' (n - 1) cols l) r → (∀ k, ((if decide (l[i]? = some c) = true then (if ((i + 1 : Nat) : Int) < (l.length : Int) then (if (0 : Int) ≤ ((i + 1 : Nat) : Int) then tabs_Stops_Next.l0 k (rd l ((i + 1 : Nat) : Int)) (n - 1) cols l else none) else tabs_Stops_Next.l0 k (cols - 1) (n - 1) cols l) else (if (i : Int) < (l.length : Int) then (if (0 : Int) ≤ (i : Int) then tabs_Stops_Next.l0 k (rd l (i : Int)) (n - 1) cols l else none) else tabs_Stops_Next.l0 k (cols - 1) (n - 1) cols l)) = tabs_Stops_Next.l0 k c' (n - 1) cols l)) → Ev (fun k => tabs_Stops_Next.l0 k c n cols l) r := fun c' r hr he => by
    apply ev_succ
    simp only [tabs_Stops_Next.l0, if_pos (show n > 0 from hn), hwc, decide_eq_true h1]
    apply ev_succ
    simp only [tabs_Stops_Next.j1, if_true, hwc, hwn]
    refine ev_bind hE ?_
    simp only [hwi, he]
    exact hr
  by_cases c3 : l[i]? = some c
  · have hlt : i < l.length := by
      rcases List.getElem?_eq_some_iff.1 c3 with ⟨h, _⟩
      exact h
    have hli : l[i] = c := (List.getElem?_eq_some_iff.1 c3).2
    by_cases c4 : i + 1 < l.length
    · refine ⟨l[i + 1], ⟨?_, (hS.rng _ (List.getElem_mem c4)).2, .inr (List.getElem_mem c4), fun x hx hcx => ?_⟩, fun r hr => go _ r hr (fun k => ?_)⟩
      · rw [← hli]; exact rise_lt hS.rise hlt c4 (by omega)
      · obtain ⟨j, hj, e⟩ := List.getElem_of_mem hx
        by_cases e2 : j ≤ i
        · exfalso
          by_cases e3 : j = i
          · subst e3; omega
          · have := rise_lt hS.rise hj hlt (by omega)
            omega
        · by_cases e3 : j = i + 1
          · subst e3; omega
          · have := rise_lt hS.rise c4 hj (by omega)
            omega
      · rw [if_pos (decide_eq_true c3), if_pos (by omega), if_pos (by omega), rd_lt c4]
    · refine ⟨cols - 1, ⟨h1, by omega, .inl rfl, fun x hx hcx => ?_⟩, fun r hr => go _ r hr (fun k => ?_)⟩
      · exfalso
        obtain ⟨j, hj, e⟩ := List.getElem_of_mem hx
        by_cases e3 : j = i
        · subst e3; omega
        · have := rise_lt hS.rise hj hlt (by omega)
          omega
      · rw [if_pos (decide_eq_true c3), if_neg (by omega)]
  · by_cases c4 : i < l.length
    · have hgt : c < l[i] := by
        have h2 := hA.hi i c4 (Nat.le_refl _)
        have h3 : l[i] ≠ c := fun e => c3 (by rw [List.getElem?_eq_getElem c4, e])
        omega
      refine ⟨l[i], ⟨hgt, (hS.rng _ (List.getElem_mem c4)).2, .inr (List.getElem_mem c4), fun x hx hcx => ?_⟩, fun r hr => go _ r hr (fun k => ?_)⟩
      · obtain ⟨j, hj, e⟩ := List.getElem_of_mem hx
        by_cases e2 : j < i
        · have := hA.lo j hj e2; omega
        · by_cases e3 : j = i
          · subst e3; omega
          · have := rise_lt hS.rise c4 hj (by omega)
            omega
      · rw [if_neg (by simp [c3]), if_pos (by omega), if_pos (by omega), rd_lt c4]
    · refine ⟨cols - 1, ⟨h1, by omega, .inl rfl, fun x hx hcx => ?_⟩, fun r hr => go _ r hr (fun k => ?_)⟩
      · exfalso
        obtain ⟨j, hj, e⟩ := List.getElem_of_mem hx
        have := hA.lo j hj (by omega)
        omega
      · rw [if_neg (by simp [c3]), if_neg (by omega)]
theorem Next_end (cols : Int) (l : List Int) (hc0 : 1 ≤ cols) (hc : cols ≤ 132) (c n : Int) (h : ¬ (0 < n ∧ c < cols - 1)) : Ev (fun k => tabs_Stops_Next.l0 k c n cols l) (c, cols, l) := by
  have hwc : wrap64 (cols - 1) = cols - 1 := w64 (by omega) (by omega)
  have fin : Ev (fun k => tabs_Stops_Next.j1 k c n false cols l) (c, cols, l) := by
    apply ev_succ
    simp only [tabs_Stops_Next.j1, Bool.false_eq_true, if_false]
    exact ev_some _
  apply ev_succ
  by_cases c1 : n > 0
  · simp only [tabs_Stops_Next.l0, if_pos c1, hwc, decide_eq_false (show ¬ c < cols - 1 from fun h2 => h ⟨c1, h2⟩)]
    exact fin
  · simp only [tabs_Stops_Next.l0, if_neg c1]
    exact fin
theorem List_ok (cols : Int) (l : List Int) (hl : l.length ≤ 1000000) : tabs_Stops_List.f cols l = some (l, cols, l) := by
  unfold tabs_Stops_List.f slices_Clone_int_int.f
  rw [if_pos (by omega)]
  rfl

/-- One stop back. -/
def Bk (l : List Int) (c c' : Int) : Prop := c' < c ∧ 0 ≤ c' ∧ (c' = 0 ∨ c' ∈ l) ∧ ∀ x ∈ l, x < c → x ≤ c'
theorem Back_step (cols : Int) (l : List Int) (hS : Srt cols l) (hl : l.length ≤ 90000) (c n : Int) (hn : 0 < n) (hn2 : n ≤ 9223372036854775807) (h0 : 0 < c) : ∃ c', Bk l c c' ∧ ∀ r, Ev (fun k => tabs_Stops_Back.l0 k c' (n - 1) cols l) r → Ev (fun k => tabs_Stops_Back.l0 k c n cols l) r := by
  obtain ⟨i, hA, hE⟩ := BS_ev l c hS.rise (by omega)
  have hwn : wrap64 (n - 1) = n - 1 := w64 (by omega) (by omega)
  have hile := hA.le
  by_cases c1 : 0 < i
  · have hlt : i - 1 < l.length := by omega
    have hwi : wrap64 ((i : Int) - 1) = ((i - 1 : Nat) : Int) := by rw [w64 (by omega) (by omega)]; omega
    refine ⟨l[i - 1], ⟨hA.lo (i - 1) hlt (by omega), (hS.rng _ (List.getElem_mem hlt)).1, .inr (List.getElem_mem hlt), fun x hx hcx => ?_⟩, fun r hr => ?_⟩
    · obtain ⟨j, hj, e⟩ := List.getElem_of_mem hx
      by_cases e2 : i ≤ j
      · have := hA.hi j hj e2; omega
      · by_cases e3 : j = i - 1
        · subst e3; omega
        · have := rise_lt hS.rise hj hlt (by omega)
          omega
    · apply ev_succ
      simp only [tabs_Stops_Back.l0, if_pos (show n > 0 from hn), decide_eq_true (show c > 0 from h0)]
      apply ev_succ
      simp only [tabs_Stops_Back.j1, if_true, hwn]
      refine ev_bind hE ?_
      simp only [if_pos (show (i : Int) > 0 by omega), hwi, if_pos (show (0 : Int) ≤ ((i - 1 : Nat) : Int) by omega), if_pos (show ((i - 1 : Nat) : Int) < (l.length : Int) by omega), rd_lt hlt]
      exact hr
  · refine ⟨0, ⟨h0, by omega, .inl rfl, fun x hx hcx => ?_⟩, fun r hr => ?_⟩
    · exfalso
      obtain ⟨j, hj, e⟩ := List.getElem_of_mem hx
      have := hA.hi j hj (by omega)
      omega
    · apply ev_succ
      simp only [tabs_Stops_Back.l0, if_pos (show n > 0 from hn), decide_eq_true (show c > 0 from h0)]
      apply ev_succ
      simp only [tabs_Stops_Back.j1, if_true, hwn]
      refine ev_bind hE ?_
      simp only [if_neg (show ¬ (i : Int) > 0 by omega)]
      exact hr
theorem Back_end (cols : Int) (l : List Int) (c n : Int) (h : ¬ (0 < n ∧ 0 < c)) : Ev (fun k => tabs_Stops_Back.l0 k c n cols l) (c, cols, l) := by
  have fin : Ev (fun k => tabs_Stops_Back.j1 k c n false cols l) (c, cols, l) := by
    apply ev_succ
    simp only [tabs_Stops_Back.j1, Bool.false_eq_true, if_false]
    exact ev_some _
  apply ev_succ
  by_cases c1 : n > 0
  · simp only [tabs_Stops_Back.l0, if_pos c1, decide_eq_false (show ¬ c > 0 from fun h2 => h ⟨c1, h2⟩)]
    exact fin
  · simp only [tabs_Stops_Back.l0, if_neg c1]
    exact fin

/-! ### ops, beside the page's answer -/
theorem erase_mem {l : List Int} {a : Int} {i : Nat} (hr : l.Pairwise (· < ·)) (h : l[i]? = some a) (x : Int) : x ∈ l.eraseIdx i ↔ x ∈ l ∧ x ≠ a := by
  obtain ⟨hi, e⟩ := List.getElem?_eq_some_iff.1 h
  constructor
  · intro hx
    obtain ⟨j, hj, e2⟩ := List.getElem_of_mem hx
    rw [List.length_eraseIdx, if_pos hi] at hj
    rw [List.getElem_eraseIdx] at e2
    split at e2
    · rename_i hlt
      have := rise_lt hr (i := j) (j := i) (by omega) hi hlt
      exact ⟨by rw [← e2]; exact List.getElem_mem _, by omega⟩
    · rename_i hge
      have := rise_lt hr (i := i) (j := j + 1) hi (by omega) (by omega)
      exact ⟨by rw [← e2]; exact List.getElem_mem _, by omega⟩
  · rintro ⟨hx, hne⟩
    obtain ⟨j, hj, e2⟩ := List.getElem_of_mem hx
    by_cases c : j < i
    · have hl : j < (l.eraseIdx i).length := by rw [List.length_eraseIdx, if_pos hi]; omega
      have : (l.eraseIdx i)[j] = x := by rw [List.getElem_eraseIdx, dif_pos c]; exact e2
      rw [← this]
      exact List.getElem_mem hl
    · have hji : j ≠ i := fun e3 => by subst e3; omega
      have hl : j - 1 < (l.eraseIdx i).length := by rw [List.length_eraseIdx, if_pos hi]; omega
      have : (l.eraseIdx i)[j - 1] = x := by
        rw [List.getElem_eraseIdx, dif_neg (by omega)]
        have e4 : j - 1 + 1 = j := by omega
        simp only [e4]
        exact e2
      rw [← this]
      exact List.getElem_mem hl
theorem Clear_ev (cols : Int) (l : List Int) (a : Int) (hS : Srt cols l) (hl : l.length ≤ 90000) : ∃ r, Ev (fun k => tabs_Stops_Clear.f k cols l a) (cols, r) ∧ Srt cols r ∧ r.length ≤ l.length ∧ ∀ x, x ∈ r ↔ x ∈ l ∧ x ≠ a := by
  obtain ⟨i, hA, hE⟩ := BS_ev l a hS.rise (by omega)
  by_cases c : l[i]? = some a
  · have hi : i < l.length := (List.getElem?_eq_some_iff.1 c).1
    have hw : wrap64 ((i : Int) + 1) = (i : Int) + 1 := w64 (by omega) (by omega)
    have hle : (l.eraseIdx i).length ≤ l.length := by rw [List.length_eraseIdx, if_pos hi]; omega
    refine ⟨l.eraseIdx i, ?_, ⟨hS.rise.sublist (List.eraseIdx_sublist l i), fun x hx => hS.rng x ((erase_mem hS.rise c x).1 hx).1, by have := hS.len; omega⟩, hle, erase_mem hS.rise c⟩
    unfold tabs_Stops_Clear.f
    refine ev_bind hE ?_
    simp only [decide_eq_true c, if_true, hw, slices_Delete_int_int.f]
    rw [if_pos ⟨by omega, by omega, trivial, by omega⟩]
    exact ev_some _
  · refine ⟨l, ?_, hS, Nat.le_refl _, fun x => ⟨fun h => ⟨h, fun e => c ((hA.mem hS.rise).1 (e ▸ h))⟩, fun h => h.1⟩⟩
    unfold tabs_Stops_Clear.f
    refine ev_bind hE ?_
    simp only [decide_eq_false c, Bool.false_eq_true, if_false]
    exact ev_some _
def stB (c : Nat) : Bool := decide (0 < c ∧ c % 8 = 0)
theorem stB_pos (i : Nat) (h : 0 < i) : ((Int.tmod (i : Int) 8) == 0) = stB i := by
  rw [Int.tmod_eq_emod_of_nonneg (by omega)]
  unfold stB
  rw [Bool.eq_iff_iff, beq_iff_eq, decide_eq_true_iff]
  omega
theorem RNew_l0 (n : Nat) (hn : n ≤ 132) : ∀ (d i : Nat), n - i = d → i ≤ n → Ev (fun k => batonref11_New.l0 k (n : Int) ((List.range i).map stB) (i : Int)) ((List.range n).map stB) := by
  intro d
  induction d with
  | zero =>
    intro i hd hi
    obtain rfl : i = n := by omega
    apply ev_succ
    simp only [batonref11_New.l0, if_neg (show ¬ ((i : Int) < (i : Int)) by omega)]
    exact ev_some _
  | succ d ih =>
    intro i hd hi
    have hw : wrap64 ((i : Int) + 1) = ((i + 1 : Nat) : Int) := by rw [w64 (by omega) (by omega)]; omega
    have h := ih (i + 1) (by omega) (by omega)
    rw [List.range_succ, List.map_append, List.map_cons, List.map_nil] at h
    have hlen : ((List.range i).map stB).length < 140737488355328 := by simp; omega
    apply ev_succ
    by_cases c : (i : Int) > 0
    · simp only [batonref11_New.l0, if_pos (show (i : Int) < (n : Int) by omega), if_pos c, if_pos hlen, hw, stB_pos i (by omega)]
      exact h
    · simp only [batonref11_New.l0, if_pos (show (i : Int) < (n : Int) by omega), if_neg c, if_pos hlen, hw]
      obtain rfl : i = 0 := by omega
      exact h
theorem RNew_ev (n : Nat) (hn : n ≤ 132) : Ev (fun k => batonref11_New.f k (n : Int)) ((List.range n).map stB) := by
  unfold batonref11_New.f
  exact RNew_l0 n hn n 0 (by omega) (by omega)
def rsB (w : List Bool) (c : Nat) : Bool := if c < w.length then w.getD c false else stB c
theorem RRes_l0 (w : List Bool) (hw0 : w.length ≤ 100000) (n : Nat) (hn : n ≤ 132) : ∀ (d i : Nat), n - i = d → i ≤ n → Ev (fun k => batonref11_Resize.l0 k w (n : Int) ((List.range i).map (rsB w)) (i : Int)) ((List.range n).map (rsB w)) := by
  intro d
  induction d with
  | zero =>
    intro i hd hi
    obtain rfl : i = n := by omega
    apply ev_succ
    simp only [batonref11_Resize.l0, if_neg (show ¬ ((i : Int) < (i : Int)) by omega)]
    exact ev_some _
  | succ d ih =>
    intro i hd hi
    have hw : wrap64 ((i : Int) + 1) = ((i + 1 : Nat) : Int) := by rw [w64 (by omega) (by omega)]; omega
    have h := ih (i + 1) (by omega) (by omega)
    rw [List.range_succ, List.map_append, List.map_cons, List.map_nil] at h
    have hlen : ((List.range i).map (rsB w)).length < 140737488355328 := by simp; omega
    apply ev_succ
    by_cases c0 : (i : Int) < (w.length : Int)
    · have e : rsB w i = rdOf false w (i : Int) := by unfold rsB rdOf; rw [if_pos (by omega), Int.toNat_natCast]
      simp only [batonref11_Resize.l0, if_pos (show (i : Int) < (n : Int) by omega), if_pos c0, if_pos (show (0 : Int) ≤ (i : Int) by omega), if_pos hlen, hw, ← e]
      exact h
    · have e : rsB w i = stB i := by unfold rsB; rw [if_neg (by omega)]
      rw [e] at h
      by_cases c : (i : Int) > 0
      · simp only [batonref11_Resize.l0, if_pos (show (i : Int) < (n : Int) by omega), if_neg c0, if_pos c, if_pos hlen, hw, stB_pos i (by omega)]
        exact h
      · simp only [batonref11_Resize.l0, if_pos (show (i : Int) < (n : Int) by omega), if_neg c0, if_neg c, if_pos hlen, hw]
        obtain rfl : i = 0 := by omega
        exact h
theorem RRes_ev (w : List Bool) (hw0 : w.length ≤ 100000) (n : Nat) (hn : n ≤ 132) : Ev (fun k => batonref11_Resize.f k w (n : Int)) ((List.range n).map (rsB w)) := by
  unfold batonref11_Resize.f
  exact RRes_l0 w hw0 n hn n 0 (by omega) (by omega)
/-- The stops and the page's answer agree. -/
structure Agr (cols : Int) (l : List Int) (w : List Bool) : Prop where
  srt : Srt cols l
  c0 : 1 ≤ cols
  c1 : cols ≤ 132
  len : (w.length : Int) = cols
  at_ : ∀ c (h : c < w.length), w[c] = decide ((c : Int) ∈ l)
theorem getElem_rm (f : Nat → Bool) (n c : Nat) (h : c < ((List.range n).map f).length) : ((List.range n).map f)[c] = f c := by simp
theorem dec_eq {p q : Prop} [Decidable p] [Decidable q] (h : p ↔ q) : decide p = decide q := decide_eq_decide.2 h
theorem do_ok (cols : Int) (l : List Int) (w : List Bool) (kind N : Int) (hA : Agr cols l w) (hl : l.length ≤ 50000) : ∃ cols' l' w', Ev (fun k => batonlaw11_do.f k cols l w kind N) (w', true, cols', l') ∧ Agr cols' l' w' ∧ l'.length ≤ l.length + 20 := by
  have hlen := hA.len
  have h0 := hA.c0
  have h1 := hA.c1
  have hwl : ([] : List Bool).length + w.length < 140737488355328 := by simp; omega
  by_cases k0 : kind = 0
  · obtain ⟨r, e, s, n, m⟩ := Set_ev cols l N hA.srt (by omega)
    have enter : ∀ x, Ev (fun k => batonlaw11_do.j0 k w kind true cols l kind N) x → Ev (fun k => batonlaw11_do.f k cols l w kind N) x := fun x hx => by
      unfold batonlaw11_do.f
      simp only [if_pos k0, show (kind == 0) = true by rw [k0]; rfl]
      exact hx
    by_cases c1 : N ≥ 0 ∧ N < (w.length : Int)
    · refine ⟨cols, r, w.set N.toNat true, enter _ ?_, ⟨s, h0, h1, by rw [List.length_set]; exact hlen, fun c hc => ?_⟩, by omega⟩
      · apply ev_succ
        simp only [batonlaw11_do.j0, if_true, if_pos k0]
        refine ev_bind e ?_
        simp only [Option.bind_some, if_pos hwl, List.nil_append, if_pos c1.1, if_pos c1.2, show (kind == 0) = true by rw [k0]; rfl]
        exact ev_some _
      · rw [List.length_set] at hc
        rw [List.getElem_set]
        by_cases e2 : N.toNat = c
        · rw [if_pos e2]
          exact (decide_eq_true ((m c).2 (.inr ⟨by omega, c1.1, by omega⟩))).symm
        · rw [if_neg e2, hA.at_ c hc]
          exact dec_eq ⟨fun h => (m c).2 (.inl h), fun h => ((m c).1 h).elim id (fun h => absurd h.1 (by omega))⟩
    · refine ⟨cols, r, w, enter _ ?_, ⟨s, h0, h1, hlen, fun c hc => ?_⟩, by omega⟩
      · apply ev_succ
        simp only [batonlaw11_do.j0, if_true, if_pos k0]
        refine ev_bind e ?_
        simp only [Option.bind_some, if_pos hwl, List.nil_append]
        by_cases c2 : N ≥ 0
        · simp only [if_pos c2, if_neg (show ¬ N < (w.length : Int) from fun h => c1 ⟨c2, h⟩)]
          exact ev_some _
        · simp only [if_neg c2]
          exact ev_some _
      · rw [hA.at_ c hc]
        exact dec_eq ⟨fun h => (m c).2 (.inl h), fun h => ((m c).1 h).elim id (fun h => absurd ⟨h.2.1, by omega⟩ c1)⟩
  by_cases k1 : kind = 1
  · obtain ⟨r, e, s, n, m⟩ := Clear_ev cols l N hA.srt (by omega)
    have enter : ∀ x, Ev (fun k => batonlaw11_do.j0 k w kind true cols l kind N) x → Ev (fun k => batonlaw11_do.f k cols l w kind N) x := fun x hx => by
      unfold batonlaw11_do.f
      simp only [if_neg k0, show (kind == 1) = true by rw [k1]; rfl]
      exact hx
    by_cases c1 : N ≥ 0 ∧ N < (w.length : Int)
    · refine ⟨cols, r, w.set N.toNat false, enter _ ?_, ⟨s, h0, h1, by rw [List.length_set]; exact hlen, fun c hc => ?_⟩, by omega⟩
      · apply ev_succ
        simp only [batonlaw11_do.j0, if_true, if_neg k0]
        refine ev_bind e ?_
        simp only [Option.bind_some, if_pos hwl, List.nil_append, if_pos c1.1, if_pos c1.2, show (kind == 0) = false by rw [k1]; rfl]
        exact ev_some _
      · rw [List.length_set] at hc
        rw [List.getElem_set]
        by_cases e2 : N.toNat = c
        · rw [if_pos e2]
          exact (decide_eq_false (fun h => ((m c).1 h).2 (by omega))).symm
        · rw [if_neg e2, hA.at_ c hc]
          exact dec_eq ⟨fun h => (m c).2 ⟨h, by omega⟩, fun h => ((m c).1 h).1⟩
    · refine ⟨cols, r, w, enter _ ?_, ⟨s, h0, h1, hlen, fun c hc => ?_⟩, by omega⟩
      · apply ev_succ
        simp only [batonlaw11_do.j0, if_true, if_neg k0]
        refine ev_bind e ?_
        simp only [Option.bind_some, if_pos hwl, List.nil_append]
        by_cases c2 : N ≥ 0
        · simp only [if_pos c2, if_neg (show ¬ N < (w.length : Int) from fun h => c1 ⟨c2, h⟩)]
          exact ev_some _
        · simp only [if_neg c2]
          exact ev_some _
      · rw [hA.at_ c hc]
        exact dec_eq ⟨fun h => (m c).2 ⟨h, fun e => c1 ⟨by omega, by omega⟩⟩, fun h => ((m c).1 h).1⟩
  have enter : ∀ x, Ev (fun k => batonlaw11_do.j0 k w kind false cols l kind N) x → Ev (fun k => batonlaw11_do.f k cols l w kind N) x := fun x hx => by
    unfold batonlaw11_do.f
    simp only [if_neg k0, show (kind == 1) = false from beq_eq_false_iff_ne.2 k1]
    exact hx
  by_cases k2 : kind = 2
  · refine ⟨cols, [], List.replicate w.length false, enter _ ?_, ⟨⟨List.Pairwise.nil, by simp, by simp⟩, h0, h1, by rw [List.length_replicate]; exact hlen, fun c hc => by simp⟩, by simp⟩
    apply ev_succ
    simp only [batonlaw11_do.j0, Bool.false_eq_true, if_false, if_pos k2, tabs_Stops_None.f, Option.bind_some, if_pos (show (0 : Int) ≤ (w.length : Int) by omega), Int.toNat_natCast, if_pos (show w.length ≤ 281474976710656 by omega)]
    exact ev_some _
  · by_cases c1 : 1 ≤ N ∧ N ≤ 132
    · obtain ⟨r, e, s, n, m⟩ := Resize_ok cols N l (by omega) h1 c1.1 c1.2 hA.srt (by omega)
      obtain ⟨nn, rfl⟩ := Int.eq_ofNat_of_zero_le (show 0 ≤ N by omega)
      refine ⟨(nn : Int), r, (List.range nn).map (rsB w), enter _ ?_, ⟨s, c1.1, c1.2, by simp, fun c hc => ?_⟩, by omega⟩
      · apply ev_succ
        simp only [batonlaw11_do.j0, Bool.false_eq_true, if_false, if_neg k2]
        refine ev_bind e ?_
        simp only [if_neg (show ¬ (nn : Int) < 1 by omega), if_neg (show ¬ (nn : Int) > 132 by omega)]
        refine ev_bind (RRes_ev w (by omega) nn (by omega)) ?_
        exact ev_some _
      · rw [getElem_rm]
        have hcn : c < nn := by simpa using hc
        unfold rsB
        by_cases c2 : c < w.length
        · rw [if_pos c2, show w.getD c false = w[c] by simp [List.getD_eq_getElem?_getD, c2], hA.at_ c c2]
          refine dec_eq ⟨fun h => (m c).2 (.inl ⟨h, by omega⟩), fun h => ((m c).1 h).elim (fun h => h.1) (fun h => absurd h.1 (by omega))⟩
        · rw [if_neg c2]
          unfold stB
          refine dec_eq ⟨fun h => (m c).2 (.inr (by omega)), fun h => ((m c).1 h).elim (fun h => absurd (hA.srt.rng _ h.1).2 (by omega)) (fun h => by omega)⟩
    · refine ⟨cols, l, w, enter _ ?_, hA, by omega⟩
      have hr : ∀ k, tabs_Stops_Resize.f k cols l N = some (22, cols, l) := fun k => by
        unfold tabs_Stops_Resize.f
        simp only [size_f, Option.bind_some, decide_eq_false c1, Bool.false_eq_true, if_false]
      apply ev_succ
      simp only [batonlaw11_do.j0, Bool.false_eq_true, if_false, if_neg k2, hr, Option.bind_some]
      by_cases c2 : N < 1
      · simp only [if_pos c2]
        exact ev_some _
      · simp only [if_neg c2, if_pos (show N > 132 by omega)]
        exact ev_some _
theorem New_agr (cols : Int) (hc0 : 1 ≤ cols) (hc : cols ≤ 132) : ∃ r w, Ev (fun k => tabs_New.f k cols) (true, cols, r, 0) ∧ Ev (fun k => batonref11_New.f k cols) w ∧ Agr cols r w ∧ r.length ≤ 20 := by
  obtain ⟨r, e, s, n, m⟩ := New_ok cols hc0 hc
  obtain ⟨nn, rfl⟩ := Int.eq_ofNat_of_zero_le (show 0 ≤ cols by omega)
  refine ⟨r, (List.range nn).map stB, e, RNew_ev nn (by omega), ⟨s, hc0, hc, by simp, fun c hc => ?_⟩, n⟩
  rw [getElem_rm]
  have hcn : c < nn := by simpa using hc
  unfold stB
  exact dec_eq ⟨fun h => (m c).2 (by omega), fun h => by have := (m c).1 h; omega⟩

end Go.Proofs.Ytgnbhomdkchcfaa.LF11M
