/- Plain lemmas on the functions of this family (IntakeTells, IntakePuts): what each loop comes to. No condition. -/
import Derived.Test.YtdbfclfglpbpmaaBase
import Derived.Test.YtdbfclfglpbpmaaPF33x
namespace Go.Proofs.Ytdbfclfglpbpmaa.LF33
open Go.RowKit Go.Proofs.Ytdbfclfglpbpmaa.Base Go.Proofs.YtdbfclfglpbpmaaW.PrintWords Go.Proofs.YtdbfclfglpbpmaaW.PrintMore Go.Proofs.Ytdbfclfglpbpmaa.PF33
set_option linter.unusedVariables false
set_option linter.unusedSimpArgs false

/-! ### batonref01 -/
theorem Same_l0 (a b : List Int) (h : a.length = b.length) (hl : a.length ≤ 9000000000000000000) : ∀ (d i : Nat), a.length - i = d → i ≤ a.length → Ev (fun k => batonref01_Same.l0 k a b (i : Int)) (decide (a.drop i = b.drop i)) := by
  intro d
  induction d with
  | zero =>
    intro i hd hi
    obtain rfl : i = a.length := by omega
    apply ev_succ
    simp only [batonref01_Same.l0, if_neg (show ¬ ((a.length : Int) < (a.length : Int)) by omega)]
    exact ev_eq (ev_some _) (by simp [h])
  | succ d ih =>
    intro i hd hi
    have hlt : i < a.length := by omega
    have hltb : i < b.length := by omega
    have hw : wrap64 ((i : Int) + 1) = ((i + 1 : Nat) : Int) := by rw [w64 (by omega) (by omega)]; omega
    apply ev_succ
    simp only [batonref01_Same.l0, if_pos (show (i : Int) < (a.length : Int) by omega), if_pos (show (0 : Int) ≤ (i : Int) by omega), if_pos (show (i : Int) < (b.length : Int) by omega), rd_lt hlt, rd_lt hltb, hw]
    have key : (a.drop i = b.drop i) ↔ (a[i] = b[i] ∧ a.drop (i + 1) = b.drop (i + 1)) := by
      rw [List.drop_eq_getElem_cons hlt, List.drop_eq_getElem_cons hltb]
      exact List.cons_eq_cons
    by_cases e : a[i] = b[i]
    · simp only [if_pos e]
      refine ev_eq (ih (i + 1) (by omega) (by omega)) ?_
      simp only [key, e, true_and]
    · simp only [if_neg e]
      refine ev_eq (ev_some _) ?_
      simp only [key, e, false_and, decide_false]
theorem Same_ev (a b : List Int) (hl : a.length ≤ 9000000000000000000) : Ev (fun k => batonref01_Same.f k a b) (decide (a = b)) := by
  unfold batonref01_Same.f
  by_cases h : a.length = b.length
  · simp only [if_pos (show (a.length : Int) = (b.length : Int) by omega)]
    exact ev_eq (Same_l0 a b h hl a.length 0 (by omega) (by omega)) (by simp)
  · simp only [if_neg (show ¬ ((a.length : Int) = (b.length : Int)) by omega)]
    exact ev_eq (ev_some _) (by simp; intro e; exact h (by rw [e]))

/-! ### intake -/
theorem rd36 (l : List S36) (i : Nat) (h : i < l.length) : rd_T36 l (i : Int) = l[i] := by
  unfold rd_T36
  simp [List.getD_eq_getElem?_getD, h]
theorem Bytes_l0 (l : List S36) (hl : l.length ≤ 1000000000000) : ∀ (d i : Nat), l.length - i = d → i ≤ l.length → Ev (fun k => intake_Bytes.l0 k ((l.take i).map (·.f2)) l (l.length : Int) (i : Int)) (l.map (·.f2)) := by
  intro d
  induction d with
  | zero =>
    intro i hd hi
    obtain rfl : i = l.length := by omega
    apply ev_succ
    simp only [intake_Bytes.l0, if_neg (show ¬ ((l.length : Int) < (l.length : Int)) by omega), List.take_length]
    exact ev_some _
  | succ d ih =>
    intro i hd hi
    have hlt : i < l.length := by omega
    have hw : wrap64 ((i : Int) + 1) = ((i + 1 : Nat) : Int) := by rw [w64 (by omega) (by omega)]; omega
    have hlen : ((l.take i).map (·.f2)).length < 140737488355328 := by rw [List.length_map, List.length_take]; omega
    apply ev_succ
    simp only [intake_Bytes.l0, if_pos (show (i : Int) < (l.length : Int) by omega), if_pos (show (0 : Int) ≤ (i : Int) by omega), rd36 l i hlt, hw, if_pos hlen]
    have e : (l.take i).map (·.f2) ++ [l[i].f2] = (l.take (i + 1)).map (·.f2) := by rw [List.take_succ_eq_append_getElem hlt, List.map_append]; rfl
    rw [e]
    exact ih (i + 1) (by omega) (by omega)
theorem Bytes_ev (l : List S36) (hl : l.length ≤ 1000000000000) : Ev (fun k => intake_Bytes.f k l) (l.map (·.f2)) := by
  unfold intake_Bytes.f
  have := Bytes_l0 l hl l.length 0 (by omega) (by omega)
  simpa using this
def ofL (l : List S36) (e : Int) : List Int := (l.filter fun x => x.f0 = e).map (·.f2)
theorem ofL_snoc (l : List S36) (e : Int) (i : Nat) (h : i < l.length) : ofL (l.take (i + 1)) e = if l[i].f0 = e then ofL (l.take i) e ++ [l[i].f2] else ofL (l.take i) e := by
  unfold ofL
  rw [List.take_succ_eq_append_getElem h, List.filter_append, List.map_append]
  by_cases c : l[i].f0 = e
  · simp [c]
  · simp [c]
theorem ofL_len (l : List S36) (e : Int) (i : Nat) : (ofL (l.take i) e).length ≤ i := by
  unfold ofL
  rw [List.length_map]
  exact Nat.le_trans (List.length_filter_le _ _) (by rw [List.length_take]; omega)
theorem Of_l0 (l : List S36) (e : Int) (hl : l.length ≤ 1000000000000) : ∀ (d i : Nat), l.length - i = d → i ≤ l.length → Ev (fun k => intake_Of.l0 k e (ofL (l.take i) e) l (l.length : Int) (i : Int)) (ofL l e) := by
  intro d
  induction d with
  | zero =>
    intro i hd hi
    obtain rfl : i = l.length := by omega
    apply ev_succ
    simp only [intake_Of.l0, if_neg (show ¬ ((l.length : Int) < (l.length : Int)) by omega), List.take_length]
    exact ev_some _
  | succ d ih =>
    intro i hd hi
    have hlt : i < l.length := by omega
    have hw : wrap64 ((i : Int) + 1) = ((i + 1 : Nat) : Int) := by rw [w64 (by omega) (by omega)]; omega
    have hlen : (ofL (l.take i) e).length < 140737488355328 := by have := ofL_len l e i; omega
    have hs := ofL_snoc l e i hlt
    apply ev_succ
    simp only [intake_Of.l0, if_pos (show (i : Int) < (l.length : Int) by omega), if_pos (show (0 : Int) ≤ (i : Int) by omega), rd36 l i hlt, hw, if_pos hlen]
    by_cases c : l[i].f0 = e
    · rw [if_pos c] at hs
      simp only [if_pos c]
      rw [← hs]
      exact ih (i + 1) (by omega) (by omega)
    · rw [if_neg c] at hs
      simp only [if_neg c]
      rw [← hs]
      exact ih (i + 1) (by omega) (by omega)
theorem Of_ev (l : List S36) (e : Int) (hl : l.length ≤ 1000000000000) : Ev (fun k => intake_Of.f k l e) (ofL l e) := by
  unfold intake_Of.f
  have := Of_l0 l e hl l.length 0 (by omega) (by omega)
  simpa [ofL] using this
/-- May the second one stand behind the first one? -/
def okk (a0 a1 b0 b1 : Int) : Prop := ¬ b0 < a0 ∧ (b0 = a0 → b1 = a1)
theorem okk_trans {a0 a1 b0 b1 c0 c1 : Int} (h : okk a0 a1 b0 b1) (k : okk b0 b1 c0 c1) : okk a0 a1 c0 c1 := by
  unfold okk at *
  refine ⟨by omega, fun e => ?_⟩
  have e1 : c0 = b0 := by omega
  have e2 : b0 = a0 := by omega
  rw [k.2 e1, h.2 e2]
theorem Rising_l0 (l : List S36) (hl : l.length ≤ 1000000000000) : ∀ (d i : Nat), l.length - i = d → 1 ≤ i →
    ∃ r, Ev (fun k => intake_Rising.l0 k l (i : Int)) r ∧ (r = true ↔ ∀ j : Nat, i ≤ j → j < l.length → okk (rd_T36 l ((j - 1 : Nat) : Int)).f0 (rd_T36 l ((j - 1 : Nat) : Int)).f1 (rd_T36 l (j : Int)).f0 (rd_T36 l (j : Int)).f1) := by
  intro d
  induction d with
  | zero =>
    intro i hd hi
    refine ⟨true, ?_, fun _ j h1 h2 => absurd h2 (by omega), fun _ => rfl⟩
    apply ev_succ
    simp only [intake_Rising.l0, if_neg (show ¬ ((i : Int) < (l.length : Int)) by omega)]
    exact ev_some _
  | succ d ih =>
    intro i hd hi
    have hlt : i < l.length := by omega
    have hw : wrap64 ((i : Int) + 1) = ((i + 1 : Nat) : Int) := by rw [w64 (by omega) (by omega)]; omega
    have hm : wrap64 ((i : Int) - 1) = ((i - 1 : Nat) : Int) := by rw [w64 (by omega) (by omega)]; omega
    obtain ⟨r, hr, hri⟩ := ih (i + 1) (by omega) (by omega)
    have key : ∀ v : Bool, (v = true ↔ (okk (rd_T36 l ((i - 1 : Nat) : Int)).f0 (rd_T36 l ((i - 1 : Nat) : Int)).f1 (rd_T36 l (i : Int)).f0 (rd_T36 l (i : Int)).f1 ∧ r = true)) → (v = true ↔ ∀ j : Nat, i ≤ j → j < l.length → okk (rd_T36 l ((j - 1 : Nat) : Int)).f0 (rd_T36 l ((j - 1 : Nat) : Int)).f1 (rd_T36 l (j : Int)).f0 (rd_T36 l (j : Int)).f1) := by
      intro v hv
      rw [hv, hri]
      constructor
      · rintro ⟨h1, h2⟩ j h3 h4
        rcases Nat.eq_or_lt_of_le h3 with h5 | h5
        · rw [← h5]
          exact h1
        · exact h2 j h5 h4
      · exact fun h => ⟨h i (Nat.le_refl _) hlt, fun j h3 h4 => h j (by omega) h4⟩
    have body : ∀ v : Bool, Ev (fun k => if (rd_T36 l (i : Int)).f0 < (rd_T36 l ((i - 1 : Nat) : Int)).f0 then some false else if (rd_T36 l (i : Int)).f0 = (rd_T36 l ((i - 1 : Nat) : Int)).f0 then (if (rd_T36 l (i : Int)).f1 = (rd_T36 l ((i - 1 : Nat) : Int)).f1 then intake_Rising.l0 k l ((i + 1 : Nat) : Int) else some false) else intake_Rising.l0 k l ((i + 1 : Nat) : Int)) v → Ev (fun k => intake_Rising.l0 k l (i : Int)) v := by
      intro v hv
      apply ev_succ
      simp only [intake_Rising.l0, if_pos (show (i : Int) < (l.length : Int) by omega), hm, hw, if_pos (show (0 : Int) ≤ ((i - 1 : Nat) : Int) by omega), if_pos (show ((i - 1 : Nat) : Int) < (l.length : Int) by omega), if_pos (show (0 : Int) ≤ (i : Int) by omega)]
      exact hv
    generalize rd_T36 l (i : Int) = b at key body ⊢
    generalize rd_T36 l ((i - 1 : Nat) : Int) = a at key body ⊢
    by_cases c1 : b.f0 < a.f0
    · refine ⟨false, body _ (by simp only [if_pos c1]; exact ev_some _), key _ ?_⟩
      unfold okk
      simp [c1]
    · by_cases c2 : b.f0 = a.f0
      · by_cases c3 : b.f1 = a.f1
        · refine ⟨r, body _ (by simp only [if_neg c1, if_pos c2, if_pos c3]; exact hr), key _ ?_⟩
          unfold okk
          simp [c1, c3]
        · refine ⟨false, body _ (by simp only [if_neg c1, if_pos c2, if_neg c3]; exact ev_some _), key _ ?_⟩
          unfold okk
          simp [c2, c3]
      · refine ⟨r, body _ (by simp only [if_neg c1, if_neg c2]; exact hr), key _ ?_⟩
        unfold okk
        simp [c1, c2]
theorem refRising_l1 (l : List S137) (hl : l.length ≤ 1000000000000) (i : Nat) (hi : i < l.length) (r : Bool) (hr : Ev (fun k => batonref33_Rising.l0 k l ((i + 1 : Nat) : Int)) r) : ∀ (d j : Nat), i - j = d → j ≤ i →
    ∃ v, Ev (fun k => batonref33_Rising.l1 k l (i : Int) (j : Int)) v ∧ (v = true ↔ (∀ q : Nat, j ≤ q → q < i → okk (rd_T137 l (q : Int)).f0 (rd_T137 l (q : Int)).f1 (rd_T137 l (i : Int)).f0 (rd_T137 l (i : Int)).f1) ∧ r = true) := by
  intro d
  induction d with
  | zero =>
    intro j hd hj
    obtain rfl : j = i := by omega
    have hw : wrap64 ((j : Int) + 1) = ((j + 1 : Nat) : Int) := by rw [w64 (by omega) (by omega)]; omega
    refine ⟨r, ?_, fun h => ⟨fun q h1 h2 => absurd h2 (by omega), h⟩, fun h => h.2⟩
    apply ev_succ
    simp only [batonref33_Rising.l1, if_neg (show ¬ ((j : Int) < (j : Int)) by omega), hw]
    exact hr
  | succ d ih =>
    intro j hd hj
    have hlt : j < i := by omega
    have hw : wrap64 ((j : Int) + 1) = ((j + 1 : Nat) : Int) := by rw [w64 (by omega) (by omega)]; omega
    obtain ⟨v, hv, hvi⟩ := ih (j + 1) (by omega) (by omega)
    have key : ∀ u : Bool, (u = true ↔ (okk (rd_T137 l (j : Int)).f0 (rd_T137 l (j : Int)).f1 (rd_T137 l (i : Int)).f0 (rd_T137 l (i : Int)).f1 ∧ v = true)) → (u = true ↔ (∀ q : Nat, j ≤ q → q < i → okk (rd_T137 l (q : Int)).f0 (rd_T137 l (q : Int)).f1 (rd_T137 l (i : Int)).f0 (rd_T137 l (i : Int)).f1) ∧ r = true) := by
      intro u hu
      rw [hu, hvi]
      constructor
      · rintro ⟨h1, h2, h3⟩
        refine ⟨fun q h4 h5 => ?_, h3⟩
        rcases Nat.eq_or_lt_of_le h4 with h6 | h6
        · rw [← h6]
          exact h1
        · exact h2 q h6 h5
      · rintro ⟨h1, h2⟩
        exact ⟨h1 j (Nat.le_refl _) hlt, fun q h4 h5 => h1 q (by omega) h5, h2⟩
    have body : ∀ u : Bool, Ev (fun k => if (rd_T137 l (j : Int)).f0 > (rd_T137 l (i : Int)).f0 then some false else if (rd_T137 l (j : Int)).f0 = (rd_T137 l (i : Int)).f0 then (if (rd_T137 l (j : Int)).f1 = (rd_T137 l (i : Int)).f1 then batonref33_Rising.l1 k l (i : Int) ((j + 1 : Nat) : Int) else some false) else batonref33_Rising.l1 k l (i : Int) ((j + 1 : Nat) : Int)) u → Ev (fun k => batonref33_Rising.l1 k l (i : Int) (j : Int)) u := by
      intro u hu
      apply ev_succ
      simp only [batonref33_Rising.l1, if_pos (show (j : Int) < (i : Int) by omega), if_pos (show (0 : Int) ≤ (j : Int) by omega), if_pos (show (j : Int) < (l.length : Int) by omega), if_pos (show (0 : Int) ≤ (i : Int) by omega), if_pos (show (i : Int) < (l.length : Int) by omega), hw]
      exact hu
    generalize rd_T137 l (i : Int) = b at key body ⊢
    generalize rd_T137 l (j : Int) = a at key body ⊢
    by_cases c1 : a.f0 > b.f0
    · refine ⟨false, body _ (by simp only [if_pos c1]; exact ev_some _), key _ ?_⟩
      unfold okk
      simp
      omega
    · by_cases c2 : a.f0 = b.f0
      · by_cases c3 : a.f1 = b.f1
        · refine ⟨v, body _ (by simp only [if_neg c1, if_pos c2, if_pos c3]; exact hv), key _ ?_⟩
          unfold okk
          simp [c2, c3]
        · refine ⟨false, body _ (by simp only [if_neg c1, if_pos c2, if_neg c3]; exact ev_some _), key _ ?_⟩
          unfold okk
          simp [c2]
          omega
      · refine ⟨v, body _ (by simp only [if_neg c1, if_neg c2]; exact hv), key _ ?_⟩
        unfold okk
        constructor
        · exact fun h => ⟨⟨by omega, fun e => absurd e (by omega)⟩, h⟩
        · exact fun h => h.2
theorem refRising_l0 (l : List S137) (hl : l.length ≤ 1000000000000) : ∀ (d i : Nat), l.length - i = d →
    ∃ r, Ev (fun k => batonref33_Rising.l0 k l (i : Int)) r ∧ (r = true ↔ ∀ j : Nat, i ≤ j → j < l.length → ∀ q : Nat, q < j → okk (rd_T137 l (q : Int)).f0 (rd_T137 l (q : Int)).f1 (rd_T137 l (j : Int)).f0 (rd_T137 l (j : Int)).f1) := by
  intro d
  induction d with
  | zero =>
    intro i hd
    refine ⟨true, ?_, fun _ j h1 h2 => absurd h2 (by omega), fun _ => rfl⟩
    apply ev_succ
    simp only [batonref33_Rising.l0, if_neg (show ¬ ((i : Int) < (l.length : Int)) by omega)]
    exact ev_some _
  | succ d ih =>
    intro i hd
    have hlt : i < l.length := by omega
    obtain ⟨r, hr, hri⟩ := ih (i + 1) (by omega)
    obtain ⟨v, hv, hvi⟩ := refRising_l1 l hl i hlt r hr i 0 (by omega) (by omega)
    refine ⟨v, ?_, ?_⟩
    · apply ev_succ
      simp only [batonref33_Rising.l0, if_pos (show (i : Int) < (l.length : Int) by omega)]
      exact hv
    · rw [hvi, hri]
      constructor
      · rintro ⟨h1, h2⟩ j h3 h4
        rcases Nat.eq_or_lt_of_le h3 with h5 | h5
        · rw [← h5]
          exact fun q hq => h1 q (Nat.zero_le _) hq
        · exact h2 j h5 h4
      · exact fun h => ⟨fun q _ h5 => h i (Nat.le_refl _) hlt q h5, fun j h3 h4 => h j (by omega) h4⟩
def toRef (x : S36) : S137 := ⟨x.f0, x.f1, x.f2⟩
theorem Ref_l0 (l : List S36) (hl : l.length ≤ 1000000000000) : ∀ (d i : Nat), l.length - i = d → i ≤ l.length → Ev (fun k => batonlaw33_Ref.l0 k l ((l.take i).map toRef) (i : Int)) (l.map toRef) := by
  intro d
  induction d with
  | zero =>
    intro i hd hi
    obtain rfl : i = l.length := by omega
    apply ev_succ
    simp only [batonlaw33_Ref.l0, if_neg (show ¬ ((l.length : Int) < (l.length : Int)) by omega), List.take_length]
    exact ev_some _
  | succ d ih =>
    intro i hd hi
    have hlt : i < l.length := by omega
    have hw : wrap64 ((i : Int) + 1) = ((i + 1 : Nat) : Int) := by rw [w64 (by omega) (by omega)]; omega
    have hlen : ((l.take i).map toRef).length < 5864062014805 := by rw [List.length_map, List.length_take]; omega
    apply ev_succ
    simp only [batonlaw33_Ref.l0, if_pos (show (i : Int) < (l.length : Int) by omega), if_pos (show (0 : Int) ≤ (i : Int) by omega), rd36 l i hlt, hw, if_pos hlen]
    have e : (l.take i).map toRef ++ [(⟨l[i].f0, l[i].f1, l[i].f2⟩ : S137)] = (l.take (i + 1)).map toRef := by rw [List.take_succ_eq_append_getElem hlt, List.map_append]; rfl
    rw [e]
    exact ih (i + 1) (by omega) (by omega)
theorem Ref_ev (l : List S36) (hl : l.length ≤ 1000000000000) : Ev (fun k => batonlaw33_Ref.f k l) (l.map toRef) := by
  unfold batonlaw33_Ref.f
  have := Ref_l0 l hl l.length 0 (by omega) (by omega)
  simpa using this
theorem rd137 (l : List S36) (i : Nat) : rd_T137 (l.map toRef) (i : Int) = toRef (rd_T36 l (i : Int)) := by
  unfold rd_T137 rd_T36
  simp only [Int.toNat_natCast, List.getD_eq_getElem?_getD, List.getElem?_map]
  cases l[i]? <;> rfl
theorem awake33 : Ev (fun k => batonlaw33_awake.f k) true := Ev.of (fun k => batonlaw33_awake.mono k) (k := 40) (by decide +kernel)

/-! ### slices.Concat of two -/
theorem Concat2 (a b : List Int) (ha : a.length ≤ 1000000000000) (hb : b.length ≤ 1000000000000) : Ev (fun k => slices_Concat_byte_byte.f k [a, b]) (a ++ b) := by
  unfold slices_Concat_byte_byte.f
  have r0 : rd_L1 [a, b] 0 = a := rfl
  have r1 : rd_L1 [a, b] 1 = b := rfl
  have n2 : (([a, b] : List (List Int)).length : Int) = 2 := rfl
  have e1 : wrap64 (0 + (a.length : Int)) = (a.length : Int) := by rw [w64 (by omega) (by omega)]; omega
  have e2 : wrap64 ((a.length : Int) + (b.length : Int)) = (a.length : Int) + (b.length : Int) := w64 (by omega) (by omega)
  have e3 : wrap64 (0 + 1) = 1 := by rw [w64 (by omega) (by omega)]; omega
  have e4 : wrap64 (1 + 1) = 2 := by rw [w64 (by omega) (by omega)]; omega
  rw [n2]
  apply ev_succ
  simp only [slices_Concat_byte_byte.l0, n2, r0, e1, e3, if_pos (show (0 : Int) < 2 by decide), if_pos (show (0 : Int) ≤ 0 by decide), if_neg (show ¬ (a.length : Int) < 0 by omega)]
  apply ev_succ
  simp only [slices_Concat_byte_byte.l0, n2, r1, e2, e4, if_pos (show (1 : Int) < 2 by decide), if_pos (show (0 : Int) ≤ 1 by decide), if_neg (show ¬ (a.length : Int) + (b.length : Int) < 0 by omega)]
  apply ev_succ
  simp only [slices_Concat_byte_byte.l0, n2, if_neg (show ¬ (2 : Int) < 2 by decide), slices_Grow_byte_byte.f, if_pos (show 0 ≤ (a.length : Int) + (b.length : Int) ∧ (a.length : Int) + (b.length : Int) ≤ 140737488355327 by omega), Option.bind_some]
  apply ev_succ
  simp only [slices_Concat_byte_byte.l1, n2, r0, e3, if_pos (show (0 : Int) < 2 by decide), if_pos (show (0 : Int) ≤ 0 by decide), List.nil_append, if_pos (show ([] : List Int).length + a.length < 140737488355328 by simp; omega)]
  apply ev_succ
  simp only [slices_Concat_byte_byte.l1, n2, r1, e4, if_pos (show (1 : Int) < 2 by decide), if_pos (show (0 : Int) ≤ 1 by decide), if_pos (show a.length + b.length < 140737488355328 by omega)]
  apply ev_succ
  simp only [slices_Concat_byte_byte.l1, n2, if_neg (show ¬ (2 : Int) < 2 by decide)]
  exact ev_some _

end Go.Proofs.Ytdbfclfglpbpmaa.LF33
