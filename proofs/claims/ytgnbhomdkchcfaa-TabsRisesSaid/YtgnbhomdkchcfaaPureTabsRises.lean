/- The law TabsRises, of plain lists: one tab leads to the right, but from the last column, to the nearest stop or to the end; one back leads to the left, but from the first, likewise. No condition beside the sizes that the row itself gives. -/
import Derived.Test.YtgnbhomdkchcfaaLF11
namespace Go.Proofs.Ytgnbhomdkchcfaa.Pure
open Go.RowKit Go.Proofs.Ytgnbhomdkchcfaa.Base Go.Proofs.YtgnbhomdkchcfaaW.PrintWords Go.Proofs.YtgnbhomdkchcfaaW.PrintMore Go.Proofs.Ytgnbhomdkchcfaa.PF11
set_option linter.unusedVariables false
set_option linter.unusedSimpArgs false
open Go.Proofs.Ytgnbhomdkchcfaa.LF11

theorem awake11 : Ev (fun k => batonlaw11_awake.f k) true := Ev.of (fun k => batonlaw11_awake.mono k) (k := 40) (by decide +kernel)
theorem Rises_l1 (col on back : Int) (l : List Int) (hl : l.length ≤ 1000000) (h1 : ∀ x ∈ l, ¬ (x > col ∧ x < on)) (h2 : ∀ x ∈ l, ¬ (x < col ∧ x > back)) : ∀ (d i : Nat) (a b : Bool), l.length - i = d → i ≤ l.length → (a = true ∨ ∃ (j : Nat) (h : j < l.length), i ≤ j ∧ l[j] = on) → (b = true ∨ ∃ (j : Nat) (h : j < l.length), i ≤ j ∧ l[j] = back) → Ev (fun k => batonlaw11_TabsRises.l1 k col on back l a b (i : Int)) true := by
  intro d
  induction d with
  | zero =>
    intro i a b hd hi ha hb
    obtain rfl : i = l.length := by omega
    have ha' : a = true := ha.elim id (fun ⟨j, h, h3, _⟩ => absurd h3 (by omega))
    have hb' : b = true := hb.elim id (fun ⟨j, h, h3, _⟩ => absurd h3 (by omega))
    subst ha' hb'
    apply ev_succ
    simp only [batonlaw11_TabsRises.l1, if_neg (show ¬ ((l.length : Int) < (l.length : Int)) by omega), if_true]
    exact ev_some _
  | succ d ih =>
    intro i a b hd hi ha hb
    have hlt : i < l.length := by omega
    have hw : wrap64 ((i : Int) + 1) = ((i + 1 : Nat) : Int) := by rw [w64 (by omega) (by omega)]; omega
    have g1 := h1 l[i] (List.getElem_mem hlt)
    have g2 := h2 l[i] (List.getElem_mem hlt)
    have next := ih (i + 1) (a || (l[i] == on)) (b || (l[i] == back)) (by omega) (by omega) (by
      rcases ha with h | ⟨j, h, h3, h4⟩
      · left; rw [h]; rfl
      · by_cases e : j = i
        · subst e; left; simp [h4]
        · right; exact ⟨j, h, by omega, h4⟩) (by
      rcases hb with h | ⟨j, h, h3, h4⟩
      · left; rw [h]; rfl
      · by_cases e : j = i
        · subst e; left; simp [h4]
        · right; exact ⟨j, h, by omega, h4⟩)
    apply ev_succ
    simp only [batonlaw11_TabsRises.l1, if_pos (show (i : Int) < (l.length : Int) by omega), if_pos (show (0 : Int) ≤ (i : Int) by omega), rd_lt hlt, hw]
    have fin : Ev (fun k => batonlaw11_TabsRises.j6 k col on back l a b (i : Int) false) true := by
      apply ev_succ
      simp only [batonlaw11_TabsRises.j6, Bool.false_eq_true, if_false, if_pos (show (i : Int) < (l.length : Int) by omega), if_pos (show (0 : Int) ≤ (i : Int) by omega), rd_lt hlt, hw]
      cases a <;> cases b <;> simpa using next
    by_cases c1 : l[i] > col
    · simp only [if_pos c1, if_neg (show ¬ l[i] < on from fun h => g1 ⟨c1, h⟩), if_neg (show ¬ l[i] < col by omega)]
      exact fin
    · simp only [if_neg c1]
      by_cases c2 : l[i] < col
      · simp only [if_pos c2, decide_eq_false (show ¬ l[i] > back from fun h => g2 ⟨c2, h⟩)]
        exact fin
      · simp only [if_neg c2]
        exact fin
theorem Rises_j3 (cols col on back : Int) (l : List Int) (hc0 : 1 ≤ cols) (hc : cols ≤ 132) (hl : l.length ≤ 1000000) (k1 : col ≤ on) (k2 : on < cols) (k3 : on = col → col = cols - 1) (k4 : back ≤ col) (k5 : 0 ≤ back) (k6 : back = col → col = 0) (h1 : ∀ x ∈ l, ¬ (x > col ∧ x < on)) (h2 : ∀ x ∈ l, ¬ (x < col ∧ x > back)) (h3 : on = cols - 1 ∨ on ∈ l) (h4 : back = 0 ∨ back ∈ l) : Ev (fun k => batonlaw11_TabsRises.j3 k cols col on back l) true := by
  have hwc : wrap64 (cols - 1) = cols - 1 := w64 (by omega) (by omega)
  have fin : Ev (fun k => batonlaw11_TabsRises.j4 k cols col on back l false) true := by
    apply ev_succ
    simp only [batonlaw11_TabsRises.j4, Bool.false_eq_true, if_false, hwc]
    refine Rises_l1 col on back l hl h1 h2 l.length 0 _ _ rfl (by omega) ?_ ?_
    · rcases h3 with h | h
      · left; simp [h]
      · obtain ⟨j, hj, e⟩ := List.getElem_of_mem h
        exact .inr ⟨j, hj, by omega, e⟩
    · rcases h4 with h | h
      · left; simp [h]
      · obtain ⟨j, hj, e⟩ := List.getElem_of_mem h
        exact .inr ⟨j, hj, by omega, e⟩
  apply ev_succ
  simp only [batonlaw11_TabsRises.j3, if_neg (show ¬ on < col by omega), if_neg (show ¬ on ≥ cols by omega), hwc]
  by_cases e1 : on = col
  · simp only [if_pos e1, if_pos (k3 e1), if_neg (show ¬ back > col by omega), if_neg (show ¬ back < 0 by omega)]
    by_cases e2 : back = col
    · have h0 := k6 e2
      simp only [if_pos e2, show (col != 0) = false by simp [h0]]
      exact fin
    · simp only [if_neg e2]
      exact fin
  · simp only [if_neg e1, if_neg (show ¬ back > col by omega), if_neg (show ¬ back < 0 by omega)]
    by_cases e2 : back = col
    · have h0 := k6 e2
      simp only [if_pos e2, show (col != 0) = false by simp [h0]]
      exact fin
    · simp only [if_neg e2]
      exact fin
theorem Rises_l0 (cols : Int) (stops : List Int) (col : Int) (hc0 : 1 ≤ cols) (hc : cols ≤ 132) (hst : stops.length ≤ 30) (q0 : 0 ≤ col) (q1 : col < cols) : ∀ (d i : Nat) (l : List Int), stops.length - i = d → i ≤ stops.length → Srt cols l → l.length ≤ 100 + i → Ev (fun k => batonlaw11_TabsRises.l0 k cols stops col (i : Int) cols l) true := by
  intro d
  induction d with
  | zero =>
    intro i l hd hi hS hl
    obtain rfl : i = stops.length := by omega
    have hwc : wrap64 (cols - 1) = cols - 1 := w64 (by omega) (by omega)
    have hcl : mn (mx col 0) (wrap64 (cols - 1)) = col := by
      rw [hwc]
      unfold mx mn
      repeat' split
      all_goals omega
    obtain ⟨on, n1, n2, n3, n4, n5, n6⟩ : ∃ on, Ev (fun k => tabs_Stops_Next.f k cols l col 1) (on, cols, l) ∧ col ≤ on ∧ on < cols ∧ (on = col → col = cols - 1) ∧ (∀ x ∈ l, ¬ (x > col ∧ x < on)) ∧ (on = cols - 1 ∨ on ∈ l) := by
      unfold tabs_Stops_Next.f
      rw [hcl]
      by_cases c : col < cols - 1
      · obtain ⟨c', ⟨x1, x2, x3, x4⟩, hc'⟩ := Next_step cols l hS (by omega) hc col 1 (by omega) (by omega) q0 c
        exact ⟨c', hc' _ (Next_end cols l hc0 hc c' (1 - 1) (by omega)), by omega, x2, fun e => absurd e (by omega), fun x hx ⟨h1, h2⟩ => by have := x4 x hx h1; omega, x3⟩
      · exact ⟨col, Next_end cols l hc0 hc col 1 (by omega), by omega, by omega, fun _ => by omega, fun x hx => by omega, .inl (by omega)⟩
    obtain ⟨back, m1, m2, m3, m4, m5, m6⟩ : ∃ back, Ev (fun k => tabs_Stops_Back.f k cols l col 1) (back, cols, l) ∧ back ≤ col ∧ 0 ≤ back ∧ (back = col → col = 0) ∧ (∀ x ∈ l, ¬ (x < col ∧ x > back)) ∧ (back = 0 ∨ back ∈ l) := by
      unfold tabs_Stops_Back.f
      rw [hcl]
      by_cases c : 0 < col
      · obtain ⟨c', ⟨x1, x2, x3, x4⟩, hc'⟩ := Back_step cols l hS (by omega) col 1 (by omega) (by omega) c
        exact ⟨c', hc' _ (Back_end cols l c' (1 - 1) (by omega)), by omega, x2, fun e => absurd e (by omega), fun x hx ⟨h1, h2⟩ => by have := x4 x hx h1; omega, x3⟩
      · exact ⟨col, Back_end cols l col 1 (by omega), by omega, by omega, fun _ => by omega, fun x hx => by omega, .inl (by omega)⟩
    apply ev_succ
    simp only [batonlaw11_TabsRises.l0, if_neg (show ¬ ((stops.length : Int) < (stops.length : Int)) by omega)]
    refine ev_bind n1 ?_
    refine ev_bind m1 ?_
    simp only [List_ok cols l (by omega), Option.bind_some]
    exact Rises_j3 cols col on back l hc0 hc (by omega) n2 n3 n4 m2 m3 m4 n5 m5 n6 m6
  | succ d ih =>
    intro i l hd hi hS hl
    have hlt : i < stops.length := by omega
    have hw : wrap64 ((i : Int) + 1) = ((i + 1 : Nat) : Int) := by rw [w64 (by omega) (by omega)]; omega
    obtain ⟨r, e, s, n, _⟩ := Set_ev cols l stops[i] hS (by omega)
    apply ev_succ
    simp only [batonlaw11_TabsRises.l0, if_pos (show (i : Int) < (stops.length : Int) by omega), if_pos (show (0 : Int) ≤ (i : Int) by omega), rd_lt hlt, hw]
    refine ev_bind e ?_
    exact ih (i + 1) r (by omega) (by omega) s (by omega)
theorem TabsRises : batonlaw11_TabsRises.Pure := by
  intro cols stops col hcw hs1 hs2 hs3 hcol
  refine Ev.rounds ?_
  unfold batonlaw11_TabsRises.f
  refine ev_bind awake11 ?_
  simp only [if_true]
  have skip : Ev (fun k => batonlaw11_TabsRises.j0 k cols stops col true) true := by
    apply ev_succ
    simp only [batonlaw11_TabsRises.j0, if_true]
    exact ev_some _
  by_cases c1 : cols < 1
  · simp only [if_pos c1]
    exact skip
  by_cases c2 : cols > 132
  · simp only [if_neg c1, if_pos c2]
    exact skip
  by_cases c3 : (stops.length : Int) > 30
  · simp only [if_neg c1, if_neg c2, if_pos c3]
    exact skip
  by_cases c4 : col < 0
  · simp only [if_neg c1, if_neg c2, if_neg c3, if_pos c4]
    exact skip
  by_cases c5 : col ≥ cols
  · simp only [if_neg c1, if_neg c2, if_neg c3, if_neg c4, decide_eq_true c5]
    exact skip
  simp only [if_neg c1, if_neg c2, if_neg c3, if_neg c4, decide_eq_false c5]
  obtain ⟨l, e, s, n, _⟩ := New_ok cols (by omega) (by omega)
  apply ev_succ
  simp only [batonlaw11_TabsRises.j0, Bool.false_eq_true, if_false]
  refine ev_bind e ?_
  simp only [if_true]
  apply ev_succ
  simp only [batonlaw11_TabsRises.j1, Bool.false_eq_true, if_false]
  exact Rises_l0 cols stops col (by omega) (by omega) (by omega) (by omega) (by omega) stops.length 0 l rfl (by omega) s (by omega)

end Go.Proofs.Ytgnbhomdkchcfaa.Pure
