/- Plain lemmas on the functions of this family (RosterChanges): what each loop comes to. No condition. -/
import Derived.Test.YtdbfclfglpbpmaaBase
import Derived.Test.YtdbfclfglpbpmaaPF25x
namespace Go.Proofs.Ytdbfclfglpbpmaa.LF25
open Go.RowKit Go.Proofs.Ytdbfclfglpbpmaa.Base Go.Proofs.YtdbfclfglpbpmaaW.PrintWords Go.Proofs.YtdbfclfglpbpmaaW.PrintMore Go.Proofs.Ytdbfclfglpbpmaa.PF25
set_option linter.unusedVariables false
set_option linter.unusedSimpArgs false

/-! ### rosters -/
theorem rd115 (l : List S115) (i : Nat) (h : i < l.length) : rd_T115 l (i : Int) = l[i] := by
  unfold rd_T115
  simp [List.getD_eq_getElem?_getD, h]
theorem rd167 (l : List S167) (i : Nat) (h : i < l.length) : rd_T167 l (i : Int) = l[i] := by
  unfold rd_T167
  simp [List.getD_eq_getElem?_getD, h]
def cv (t : S115) : S167 := ⟨t.f0, t.f1, t.f2, t.f3⟩
theorem Ref_l0 (l : List S115) (hl : l.length ≤ 1000000) : ∀ (d i : Nat), l.length - i = d → i ≤ l.length → Ev (fun k => batonlaw25_Ref.l0 k l ((l.take i).map cv) (i : Int)) (l.map cv) := by
  intro d
  induction d with
  | zero =>
    intro i hd hi
    obtain rfl : i = l.length := by omega
    apply ev_succ
    simp only [batonlaw25_Ref.l0, if_neg (show ¬ ((l.length : Int) < (l.length : Int)) by omega)]
    exact ev_eq (ev_some _) (by rw [List.take_length])
  | succ d ih =>
    intro i hd hi
    have hlt : i < l.length := by omega
    have hw : wrap64 ((i : Int) + 1) = ((i + 1 : Nat) : Int) := by rw [w64 (by omega) (by omega)]; omega
    have hn : ((l.take i).map cv).length < 4398046511104 := by simp; omega
    have h := ih (i + 1) (by omega) (by omega)
    rw [← List.take_append_getElem hlt, List.map_append] at h
    apply ev_succ
    simp only [batonlaw25_Ref.l0, if_pos (show (i : Int) < (l.length : Int) by omega), if_pos (show (0 : Int) ≤ (i : Int) by omega), if_pos hn, rd115 l i hlt, hw]
    exact h
theorem Ref_ev (l : List S115) (hl : l.length ≤ 1000000) : Ev (fun k => batonlaw25_Ref.f k l) (l.map cv) := by
  unfold batonlaw25_Ref.f
  exact Ref_l0 l hl l.length 0 (by omega) (by omega)
theorem RSame_l0 (a : List S167) (hl : a.length ≤ 1000000) : ∀ (d i : Nat), a.length - i = d → i ≤ a.length → Ev (fun k => batonref25_Same.l0 k a a (i : Int)) true := by
  intro d
  induction d with
  | zero =>
    intro i hd hi
    obtain rfl : i = a.length := by omega
    apply ev_succ
    simp only [batonref25_Same.l0, if_neg (show ¬ ((a.length : Int) < (a.length : Int)) by omega)]
    exact ev_some _
  | succ d ih =>
    intro i hd hi
    have hlt : i < a.length := by omega
    have hw : wrap64 ((i : Int) + 1) = ((i + 1 : Nat) : Int) := by rw [w64 (by omega) (by omega)]; omega
    apply ev_succ
    simp only [batonref25_Same.l0, if_pos (show (i : Int) < (a.length : Int) by omega), if_pos (show (0 : Int) ≤ (i : Int) by omega), beq_self_eq_true, Bool.not_true, Bool.or_self, Bool.false_eq_true, if_false, hw]
    exact ih (i + 1) (by omega) (by omega)
theorem RSame_ev (a : List S167) (hl : a.length ≤ 1000000) : Ev (fun k => batonref25_Same.f k a a) true := by
  unfold batonref25_Same.f
  simp only [if_true]
  exact RSame_l0 a hl a.length 0 (by omega) (by omega)
def okD (x : S167) : Prop := x.f0 ≤ 15 ∧ 1 ≤ x.f1 ∧ x.f1 ≤ 1000 ∧ 0 ≤ x.f3 ∧ x.f3 ≤ 281474976710656
def RT : Int → List S167 → Prop
  | _, [] => True
  | last, x :: t => okD x ∧ last < x.f0 ∧ RT x.f0 t
noncomputable instance (last : Int) (l : List S167) : Decidable (RT last l) := Classical.propDecidable _
theorem RT_iff : ∀ (l : List S167) (last : Int), RT last l ↔ (∀ x ∈ l, okD x ∧ last < x.f0) ∧ l.Pairwise (fun a b => a.f0 < b.f0)
  | [], last => by simp [RT]
  | x :: t, last => by
    show (okD x ∧ last < x.f0 ∧ RT x.f0 t) ↔ _
    rw [RT_iff t x.f0, List.pairwise_cons, List.forall_mem_cons]
    constructor
    · rintro ⟨h1, h2, h3, h4⟩
      exact ⟨⟨⟨h1, h2⟩, fun y hy => ⟨(h3 y hy).1, Int.lt_trans h2 (h3 y hy).2⟩⟩, fun y hy => (h3 y hy).2, h4⟩
    · rintro ⟨⟨⟨h1, h2⟩, h3⟩, h4, h5⟩
      exact ⟨h1, h2, fun y hy => ⟨(h3 y hy).1, h4 y hy⟩, h5⟩
theorem RRight_l0 (l : List S167) (hl : l.length ≤ 1000000) : ∀ (d i : Nat) (last : Int), l.length - i = d → i ≤ l.length → Ev (fun k => batonref25_Right.l0 k l last (i : Int)) (decide (RT last (l.drop i))) := by
  intro d
  induction d with
  | zero =>
    intro i last hd hi
    obtain rfl : i = l.length := by omega
    apply ev_succ
    simp only [batonref25_Right.l0, if_neg (show ¬ ((l.length : Int) < (l.length : Int)) by omega), List.drop_length]
    exact ev_eq (ev_some _) (decide_eq_true (show RT last [] from trivial)).symm
  | succ d ih =>
    intro i last hd hi
    have hlt : i < l.length := by omega
    have hw : wrap64 ((i : Int) + 1) = ((i + 1 : Nat) : Int) := by rw [w64 (by omega) (by omega)]; omega
    have hdr : RT last (l.drop i) ↔ (okD l[i] ∧ last < l[i].f0 ∧ RT l[i].f0 (l.drop (i + 1))) := by
      rw [List.drop_eq_getElem_cons hlt]
      exact Iff.rfl
    have no : ∀ (P : Prop), (okD l[i] ∧ last < l[i].f0 → ¬ P) → P → false = decide (RT last (l.drop i)) := fun P h1 h2 => (decide_eq_false (fun h => h1 ⟨(hdr.1 h).1, (hdr.1 h).2.1⟩ h2)).symm
    apply ev_succ
    simp only [batonref25_Right.l0, if_pos (show (i : Int) < (l.length : Int) by omega), if_pos (show (0 : Int) ≤ (i : Int) by omega), rd167 l i hlt, hw]
    by_cases c1 : l[i].f0 ≤ last
    · simp only [if_pos c1]
      exact ev_eq (ev_some _) (no _ (fun h => by omega) c1)
    · by_cases c2 : l[i].f0 > 15
      · simp only [if_neg c1, if_pos c2]
        exact ev_eq (ev_some _) (no _ (fun h => by have := h.1.1; omega) c2)
      · by_cases c3 : l[i].f1 < 1
        · simp only [if_neg c1, if_neg c2, if_pos c3]
          exact ev_eq (ev_some _) (no _ (fun h => by have := h.1.2.1; omega) c3)
        · by_cases c4 : l[i].f1 > 1000
          · simp only [if_neg c1, if_neg c2, if_neg c3, if_pos c4]
            exact ev_eq (ev_some _) (no _ (fun h => by have := h.1.2.2.1; omega) c4)
          · by_cases c5 : l[i].f3 < 0
            · simp only [if_neg c1, if_neg c2, if_neg c3, if_neg c4, if_pos c5]
              exact ev_eq (ev_some _) (no _ (fun h => by have := h.1.2.2.2.1; omega) c5)
            · by_cases c6 : l[i].f3 > 281474976710656
              · simp only [if_neg c1, if_neg c2, if_neg c3, if_neg c4, if_neg c5, if_pos c6]
                exact ev_eq (ev_some _) (no _ (fun h => by have := h.1.2.2.2.2; omega) c6)
              · simp only [if_neg c1, if_neg c2, if_neg c3, if_neg c4, if_neg c5, if_neg c6]
                refine ev_eq (ih (i + 1) l[i].f0 (by omega) (by omega)) (decide_eq_decide.2 ?_)
                rw [hdr]
                exact ⟨fun h => ⟨⟨by omega, by omega, by omega, by omega, by omega⟩, by omega, h⟩, fun h => h.2.2⟩
theorem RRight_ev (l : List S167) (hl : l.length ≤ 1000000) : Ev (fun k => batonref25_Right.f k l) (decide (RT (-1) l)) := by
  unfold batonref25_Right.f
  exact RRight_l0 l hl l.length 0 (-1) (by omega) (by omega)
theorem PRight_l0 (l : List S115) (hl : l.length ≤ 1000000) : ∀ (d i : Nat), l.length - i = d → i ≤ l.length → ∀ last : Int, -1 ≤ last → (i = 0 → last = -1) → (∀ h : 0 < i, ∀ h2 : i - 1 < l.length, last = (l[i - 1]).f0) → Ev (fun k => roster_Right.l0 k l l (l.length : Int) (i : Int)) (decide (RT last ((l.drop i).map cv))) := by
  intro d
  induction d with
  | zero =>
    intro i hd hi last hm h0 h1
    obtain rfl : i = l.length := by omega
    apply ev_succ
    simp only [roster_Right.l0, if_neg (show ¬ ((l.length : Int) < (l.length : Int)) by omega), List.drop_length, List.map_nil]
    exact ev_eq (ev_some _) (decide_eq_true (show RT last [] from trivial)).symm
  | succ d ih =>
    intro i hd hi last hm h0 h1
    have hlt : i < l.length := by omega
    have hw : wrap64 ((i : Int) + 1) = ((i + 1 : Nat) : Int) := by rw [w64 (by omega) (by omega)]; omega
    have hdr : RT last ((l.drop i).map cv) ↔ (okD (cv l[i]) ∧ last < l[i].f0 ∧ RT l[i].f0 ((l.drop (i + 1)).map cv)) := by
      rw [List.drop_eq_getElem_cons hlt, List.map_cons]
      exact Iff.rfl
    have no : ∀ (P : Prop), (okD (cv l[i]) ∧ last < l[i].f0 → ¬ P) → P → false = decide (RT last ((l.drop i).map cv)) := fun P h1 h2 => (decide_eq_false (fun h => h1 ⟨(hdr.1 h).1, (hdr.1 h).2.1⟩ h2)).symm
    have chk : last < l[i].f0 → l[i].f0 ≤ 15 → Ev (fun k => if l[i].f1 < 1 then some false else (if l[i].f1 > 1000 then some false else (if l[i].f3 < 0 then some false else (if l[i].f3 > 281474976710656 then some false else roster_Right.l0 k l l (l.length : Int) ((i + 1 : Nat) : Int))))) (decide (RT last ((l.drop i).map cv))) := fun h2 h15 => by
      by_cases c3 : l[i].f1 < 1
      · simp only [if_pos c3]
        exact ev_eq (ev_some _) (no _ (fun h => by have := h.1.2.1; show ¬ (cv l[i]).f1 < 1; omega) c3)
      · by_cases c4 : l[i].f1 > 1000
        · simp only [if_neg c3, if_pos c4]
          exact ev_eq (ev_some _) (no _ (fun h => by have := h.1.2.2.1; show ¬ (cv l[i]).f1 > 1000; omega) c4)
        · by_cases c5 : l[i].f3 < 0
          · simp only [if_neg c3, if_neg c4, if_pos c5]
            exact ev_eq (ev_some _) (no _ (fun h => by have := h.1.2.2.2.1; show ¬ (cv l[i]).f3 < 0; omega) c5)
          · by_cases c6 : l[i].f3 > 281474976710656
            · simp only [if_neg c3, if_neg c4, if_neg c5, if_pos c6]
              exact ev_eq (ev_some _) (no _ (fun h => by have := h.1.2.2.2.2; show ¬ (cv l[i]).f3 > 281474976710656; omega) c6)
            · simp only [if_neg c3, if_neg c4, if_neg c5, if_neg c6]
              refine ev_eq (ih (i + 1) (by omega) (by omega) l[i].f0 (by omega) (fun h => by omega) (fun _ _ => by simp)) (decide_eq_decide.2 ?_)
              rw [hdr]
              exact ⟨fun h => ⟨⟨h15, show 1 ≤ l[i].f1 by omega, show l[i].f1 ≤ 1000 by omega, show 0 ≤ l[i].f3 by omega, show l[i].f3 ≤ 281474976710656 by omega⟩, h2, h⟩, fun h => h.2.2⟩
    apply ev_succ
    simp only [roster_Right.l0, if_pos (show (i : Int) < (l.length : Int) by omega), if_pos (show (0 : Int) ≤ (i : Int) by omega), rd115 l i hlt, hw]
    by_cases c1 : l[i].f0 < 0
    · simp only [if_pos c1]
      exact ev_eq (ev_some _) (no _ (fun h => by have := h.2; omega) c1)
    · by_cases c2 : l[i].f0 ≥ 16
      · simp only [if_neg c1, if_pos c2]
        exact ev_eq (ev_some _) (no _ (fun h => by have : l[i].f0 ≤ 15 := h.1.1; omega) c2)
      · simp only [if_neg c1, if_neg c2]
        by_cases c3 : (i : Int) > 0
        · have hlt1 : i - 1 < l.length := by omega
          have hw1 : wrap64 ((i : Int) - 1) = ((i - 1 : Nat) : Int) := by rw [w64 (by omega) (by omega)]; omega
          have hla := h1 (by omega) hlt1
          simp only [if_pos c3, hw1, if_pos (show (0 : Int) ≤ ((i - 1 : Nat) : Int) by omega), if_pos (show ((i - 1 : Nat) : Int) < (l.length : Int) by omega), rd115 l (i - 1) hlt1]
          by_cases c4 : l[i].f0 ≤ (l[i - 1]).f0
          · simp only [if_pos c4]
            exact ev_eq (ev_some _) (no _ (fun h => by have := h.2; omega) c4)
          · simp only [if_neg c4]
            exact chk (by omega) (by omega)
        · simp only [if_neg c3]
          exact chk (by have := h0 (by omega); omega) (by omega)
theorem PRight_ev (l : List S115) (hl : l.length ≤ 1000000) : Ev (fun k => roster_Right.f k l) (decide (RT (-1) (l.map cv))) := by
  unfold roster_Right.f
  exact PRight_l0 l hl l.length 0 (by omega) (by omega) (-1) (by omega) (fun _ => rfl) (fun h => by omega)
theorem bsI_eq (id : Int) (l : List S115) (m : Nat) (hA : ∀ k (h : k < l.length), k < m → l[k].f0 < id) (hB : ∀ k (h : k < l.length), m ≤ k → id ≤ l[k].f0) : ∀ (d : Nat) (i j : Int), 0 ≤ i → i ≤ (m : Int) → (m : Int) ≤ j → j ≤ (l.length : Int) → (j - i).toNat ≤ d → bsI id l d i j = (m : Int)
  | 0, i, j, h0, h1, h2, h3, h4 => by
    show i = (m : Int)
    omega
  | d + 1, i, j, h0, h1, h2, h3, h4 => by
    unfold bsI
    by_cases c : i < j
    · rw [if_pos c]
      obtain ⟨n, hn⟩ := Int.eq_ofNat_of_zero_le (show 0 ≤ (i + j) / 2 by omega)
      have hnl : n < l.length := by omega
      rw [hn, rd115 l n hnl]
      by_cases c2 : l[n].f0 < id
      · rw [if_pos c2]
        have hm : n < m := by
          rcases Nat.lt_or_ge n m with h | h
          · exact h
          · have := hB n hnl h; omega
        exact bsI_eq id l m hA hB d _ _ (by omega) (by omega) h2 h3 (by omega)
      · rw [if_neg c2]
        have hm : m ≤ n := by
          rcases Nat.lt_or_ge n m with h | h
          · exact absurd (hA n hnl h) c2
          · exact h
        exact bsI_eq id l m hA hB d _ _ h0 h1 (by omega) (by omega) (by omega)
    · rw [if_neg c]
      omega
theorem rd_mid (A C : List S115) (y : S115) : rd_T115 (A ++ y :: C) (A.length : Int) = y := by
  rw [rd115 _ _ (by simp)]
  simp
theorem rd_midR (A C : List S167) (y : S167) : rd_T167 (A ++ y :: C) (A.length : Int) = y := by
  rw [rd167 _ _ (by simp)]
  simp
theorem bsI_app (id : Int) (A B : List S115) (hA : ∀ x ∈ A, x.f0 < id) (hB : ∀ x ∈ B, id ≤ x.f0) : bsI id (A ++ B) (A ++ B).length 0 ((A ++ B).length : Int) = (A.length : Int) := by
  refine bsI_eq id (A ++ B) A.length (fun k h hk => ?_) (fun k h hk => ?_) _ _ _ (by omega) (by omega) (by simp; omega) (by omega) (by omega)
  · rw [List.getElem_append_left hk]
    exact hA _ (List.getElem_mem hk)
  · rw [List.getElem_append_right hk]
    exact hB _ (List.getElem_mem _)
theorem place_found (id : Int) (A C : List S115) (y : S115) (hA : ∀ x ∈ A, x.f0 < id) (hy : y.f0 = id) (hC : ∀ x ∈ C, id < x.f0) (hl : (A ++ y :: C).length < 1000000000) : roster_place.f (A ++ y :: C) id = some ((A.length : Int), true) := by
  have hb := bsI_app id A (y :: C) hA (fun x hx => by rcases List.mem_cons.1 hx with rfl | h; omega; have := hC x h; omega)
  simp only [roster_place.f, roster_Device_int.f, if_pos hl, hb, rd_mid, hy, Option.bind_some]
  rw [decide_eq_true (show (A.length : Int) < ((A ++ y :: C).length : Int) by simp; omega)]
  simp
theorem place_absent (id : Int) (A B : List S115) (hA : ∀ x ∈ A, x.f0 < id) (hB : ∀ x ∈ B, id < x.f0) (hl : (A ++ B).length < 1000000000) : roster_place.f (A ++ B) id = some ((A.length : Int), false) := by
  have hb := bsI_app id A B hA (fun x hx => by have := hB x hx; omega)
  simp only [roster_place.f, roster_Device_int.f, if_pos hl, hb, Option.bind_some]
  congr 2
  cases B with
  | nil => simp
  | cons y C =>
    rw [rd_mid, beq_eq_false_iff_ne.2 (by have := hB y (by simp); omega), Bool.and_false]
theorem split_at (id : Int) : ∀ (l : List S115) (last : Int), RT last (l.map cv) → ∃ A B, l = A ++ B ∧ (∀ x ∈ A, x.f0 < id) ∧ ((∀ x ∈ B, id < x.f0) ∨ ∃ y C, B = y :: C ∧ y.f0 = id ∧ ∀ x ∈ C, id < x.f0)
  | [], last, _ => ⟨[], [], rfl, by simp, .inl (by simp)⟩
  | x :: t, last, h => by
    obtain ⟨_, _, h3⟩ : okD (cv x) ∧ last < x.f0 ∧ RT x.f0 (t.map cv) := h
    have hgt : ∀ z ∈ t, x.f0 < z.f0 := fun z hz => (((RT_iff _ _).1 h3).1 (cv z) (List.mem_map_of_mem hz)).2
    by_cases c1 : x.f0 < id
    · obtain ⟨A, B, rfl, hA, hB⟩ := split_at id t x.f0 h3
      exact ⟨x :: A, B, rfl, List.forall_mem_cons.2 ⟨c1, hA⟩, hB⟩
    · by_cases c2 : x.f0 = id
      · exact ⟨[], x :: t, rfl, by simp, .inr ⟨x, t, rfl, c2, fun z hz => by have := hgt z hz; omega⟩⟩
      · exact ⟨[], x :: t, rfl, by simp, .inl (List.forall_mem_cons.2 ⟨by omega, fun z hz => by have := hgt z hz; omega⟩)⟩

end Go.Proofs.Ytdbfclfglpbpmaa.LF25
