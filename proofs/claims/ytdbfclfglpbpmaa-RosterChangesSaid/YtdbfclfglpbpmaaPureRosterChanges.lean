/- The law RosterChanges, of plain lists: what becomes of any roster by enrolling, revoking or a request is what the page says, and may be then, too. No condition beside the sizes that the row itself gives. -/
import Derived.Test.YtdbfclfglpbpmaaLF25
namespace Go.Proofs.Ytdbfclfglpbpmaa.Pure
open Go.RowKit Go.Proofs.Ytdbfclfglpbpmaa.Base Go.Proofs.YtdbfclfglpbpmaaW.PrintWords Go.Proofs.YtdbfclfglpbpmaaW.PrintMore Go.Proofs.Ytdbfclfglpbpmaa.PF25
set_option linter.unusedVariables false
set_option linter.unusedSimpArgs false
open Go.Proofs.Ytdbfclfglpbpmaa.LF25

theorem awake25 : Ev (fun k => batonlaw25_awake.f k) true := Ev.of (fun k => batonlaw25_awake.mono k) (k := 10) (by decide +kernel)
/-- Find, of a row in which just one place has the number. -/
theorem RFind_to (L : List S167) (id : Int) (hl : L.length ≤ 1000000) (m : Nat) (hA : ∀ k (h : k < L.length), k < m → L[k].f0 ≠ id) (r : Int) (hr : (m = L.length ∧ r = -1) ∨ ∃ h : m < L.length, L[m].f0 = id ∧ r = (m : Int)) : ∀ (d i : Nat), m - i = d → i ≤ m → Ev (fun k => batonref25_Find.l0 k L id (i : Int)) r := by
  intro d
  induction d with
  | zero =>
    intro i hd hi
    obtain rfl : i = m := by omega
    apply ev_succ
    rcases hr with ⟨h1, rfl⟩ | ⟨h1, h2, rfl⟩
    · simp only [batonref25_Find.l0, if_neg (show ¬ ((i : Int) < (L.length : Int)) by omega)]
      exact ev_some _
    · simp only [batonref25_Find.l0, if_pos (show (i : Int) < (L.length : Int) by omega), if_pos (show (0 : Int) ≤ (i : Int) by omega), rd167 L i h1, if_pos h2]
      exact ev_some _
  | succ d ih =>
    intro i hd hi
    have hlt : i < L.length := by rcases hr with ⟨h1, _⟩ | ⟨h1, _⟩ <;> omega
    have hw : wrap64 ((i : Int) + 1) = ((i + 1 : Nat) : Int) := by rw [w64 (by omega) (by omega)]; omega
    apply ev_succ
    simp only [batonref25_Find.l0, if_pos (show (i : Int) < (L.length : Int) by omega), if_pos (show (0 : Int) ≤ (i : Int) by omega), rd167 L i hlt, if_neg (hA i hlt (by omega)), hw]
    exact ih (i + 1) (by omega) (by omega)
theorem RFind_found (id : Int) (A C : List S115) (y : S115) (hA : ∀ x ∈ A, x.f0 < id) (hy : y.f0 = id) (hl : (A ++ y :: C).length ≤ 1000) : Ev (fun k => batonref25_Find.f k ((A ++ y :: C).map cv) id) (A.length : Int) := by
  unfold batonref25_Find.f
  refine RFind_to _ id (by rw [List.length_map]; omega) A.length (fun k h hk => ?_) _ (.inr ⟨by simp, ?_, rfl⟩) A.length 0 (by omega) (by omega)
  · rw [List.getElem_map, List.getElem_append_left hk]
    have := hA _ (List.getElem_mem hk)
    show (A[k]).f0 ≠ id
    omega
  · rw [List.getElem_map, List.getElem_append_right (Nat.le_refl _)]
    simpa [cv] using hy
theorem RFind_absent (id : Int) (A B : List S115) (hA : ∀ x ∈ A, x.f0 < id) (hB : ∀ x ∈ B, id < x.f0) (hl : (A ++ B).length ≤ 1000) : Ev (fun k => batonref25_Find.f k ((A ++ B).map cv) id) (-1) := by
  unfold batonref25_Find.f
  refine RFind_to _ id (by rw [List.length_map]; omega) ((A ++ B).map cv).length (fun k h hk => ?_) _ (.inl ⟨rfl, rfl⟩) ((A ++ B).map cv).length 0 (by omega) (by omega)
  have hk' : k < (A ++ B).length := by rw [List.length_map] at h; exact h
  rw [List.getElem_map]
  have hm : (A ++ B)[k] ∈ A ++ B := List.getElem_mem hk'
  rcases List.mem_append.1 hm with h2 | h2
  · have := hA _ h2
    show (A ++ B)[k].f0 ≠ id
    omega
  · have := hB _ h2
    show (A ++ B)[k].f0 ≠ id
    omega
/-- Behind the place of the new one the others are copied. -/
theorem With_done (L : List S167) (d : S167) (hl : L.length ≤ 1000) : ∀ (n i : Nat) (o : List S167), L.length - i = n → i ≤ L.length → o.length ≤ 1000 + i → (∀ k (h : k < L.length), i ≤ k → L[k].f0 ≠ d.f0) → Ev (fun k => batonref25_with.l0 k L o true (i : Int) d.f0 d.f1 d.f2 d.f3) (o ++ L.drop i) := by
  intro n
  induction n with
  | zero =>
    intro i o hd hi ho hne
    obtain rfl : i = L.length := by omega
    apply ev_succ
    simp only [batonref25_with.l0, if_neg (show ¬ ((L.length : Int) < (L.length : Int)) by omega), if_true]
    exact ev_eq (ev_some _) (by rw [List.drop_length, List.append_nil])
  | succ n ih =>
    intro i o hd hi ho hne
    have hlt : i < L.length := by omega
    have hw : wrap64 ((i : Int) + 1) = ((i + 1 : Nat) : Int) := by rw [w64 (by omega) (by omega)]; omega
    have h := ih (i + 1) (o ++ [L[i]]) (by omega) (by omega) (by rw [List.length_append, List.length_singleton]; omega) (fun k h hk => hne k h (by omega))
    rw [List.append_assoc, List.singleton_append, ← List.drop_eq_getElem_cons hlt] at h
    apply ev_succ
    simp only [batonref25_with.l0, if_pos (show (i : Int) < (L.length : Int) by omega), if_true]
    apply ev_succ
    simp only [batonref25_with.j1, Bool.false_eq_true, if_false, if_pos (show (i : Int) < (L.length : Int) by omega), if_pos (show (0 : Int) ≤ (i : Int) by omega), rd167 L i hlt, if_neg (hne i hlt (Nat.le_refl _)), if_pos (show o.length < 4398046511104 by omega), hw]
    exact h
/-- Ahead of it too. -/
theorem With_ahead (L : List S167) (d : S167) (hl : L.length ≤ 1000) (m : Nat) (hm : m ≤ L.length) (hA : ∀ k (h : k < L.length), k < m → L[k].f0 < d.f0) (R : List S167) (hR : Ev (fun k => batonref25_with.l0 k L (L.take m) false (m : Int) d.f0 d.f1 d.f2 d.f3) R) : ∀ (n i : Nat), m - i = n → i ≤ m → Ev (fun k => batonref25_with.l0 k L (L.take i) false (i : Int) d.f0 d.f1 d.f2 d.f3) R := by
  intro n
  induction n with
  | zero =>
    intro i hd hi
    obtain rfl : i = m := by omega
    exact hR
  | succ n ih =>
    intro i hd hi
    have hlt : i < L.length := by omega
    have hw : wrap64 ((i : Int) + 1) = ((i + 1 : Nat) : Int) := by rw [w64 (by omega) (by omega)]; omega
    have ha := hA i hlt (by omega)
    have h := ih (i + 1) (by omega) (by omega)
    rw [← List.take_append_getElem hlt] at h
    apply ev_succ
    simp only [batonref25_with.l0, if_pos (show (i : Int) < (L.length : Int) by omega), Bool.false_eq_true, if_false, if_pos (show (0 : Int) ≤ (i : Int) by omega), rd167 L i hlt, decide_eq_false (show ¬ L[i].f0 ≥ d.f0 by omega)]
    apply ev_succ
    simp only [batonref25_with.j1, Bool.false_eq_true, if_false, if_pos (show (i : Int) < (L.length : Int) by omega), if_pos (show (0 : Int) ≤ (i : Int) by omega), rd167 L i hlt, if_neg (show ¬ L[i].f0 = d.f0 by omega), if_pos (show (L.take i).length < 4398046511104 by rw [List.length_take]; omega), hw]
    exact h
theorem With_found (A C : List S167) (y d : S167) (hA : ∀ x ∈ A, x.f0 < d.f0) (hy : y.f0 = d.f0) (hC : ∀ x ∈ C, d.f0 < x.f0) (hl : (A ++ y :: C).length ≤ 1000) : Ev (fun k => batonref25_with.f k (A ++ y :: C) d.f0 d.f1 d.f2 d.f3) (A ++ d :: C) := by
  unfold batonref25_with.f
  have hlen : (A ++ y :: C).length = A.length + (C.length + 1) := by simp
  refine With_ahead (A ++ y :: C) d hl A.length (by omega) (fun k h hk => ?_) _ ?_ A.length 0 (by omega) (by omega)
  · rw [List.getElem_append_left hk]
    exact hA _ (List.getElem_mem hk)
  · have hw : wrap64 ((A.length : Int) + 1) = ((A.length + 1 : Nat) : Int) := by rw [w64 (by omega) (by omega)]; omega
    have hd := With_done (A ++ y :: C) d hl _ (A.length + 1) (A ++ [d]) rfl (by omega) (by rw [List.length_append, List.length_singleton]; omega) (fun k h hk => by
      rw [List.getElem_append_right (by omega)]
      obtain ⟨q, hq⟩ : ∃ q, k - A.length = q + 1 := ⟨k - A.length - 1, by omega⟩
      simp only [hq, List.getElem_cons_succ]
      have := hC _ (List.getElem_mem (show q < C.length by rw [hlen] at h; omega))
      omega)
    rw [show (A ++ y :: C).drop (A.length + 1) = C by rw [List.drop_append]; simp] at hd
    simp only [List.append_assoc, List.singleton_append] at hd
    rw [List.take_left' rfl]
    apply ev_succ
    simp only [batonref25_with.l0, if_pos (show (A.length : Int) < ((A ++ y :: C).length : Int) by rw [hlen]; omega), Bool.false_eq_true, if_false, if_pos (show (0 : Int) ≤ (A.length : Int) by omega), rd_midR, decide_eq_true (show y.f0 ≥ d.f0 by omega)]
    apply ev_succ
    simp only [batonref25_with.j1, if_true, if_pos (show A.length < 4398046511104 by omega), Option.bind_some, if_pos (show (0 : Int) ≤ (A.length : Int) by omega), if_pos (show (A.length : Int) < ((A ++ y :: C).length : Int) by rw [hlen]; omega), rd_midR, if_pos hy, hw]
    exact hd
theorem With_absent (A B : List S167) (d : S167) (hA : ∀ x ∈ A, x.f0 < d.f0) (hB : ∀ x ∈ B, d.f0 < x.f0) (hl : (A ++ B).length ≤ 1000) : Ev (fun k => batonref25_with.f k (A ++ B) d.f0 d.f1 d.f2 d.f3) (A ++ d :: B) := by
  unfold batonref25_with.f
  have hlen : (A ++ B).length = A.length + B.length := by simp
  refine With_ahead (A ++ B) d hl A.length (by omega) (fun k h hk => ?_) _ ?_ A.length 0 (by omega) (by omega)
  · rw [List.getElem_append_left hk]
    exact hA _ (List.getElem_mem hk)
  · rw [List.take_left' rfl]
    cases B with
    | nil =>
      apply ev_succ
      simp only [batonref25_with.l0, if_neg (show ¬ (A.length : Int) < ((A ++ []).length : Int) by simp), Bool.false_eq_true, if_false, if_pos (show A.length < 4398046511104 by omega)]
      exact ev_some _
    | cons y C =>
      have hl1 : (A ++ y :: C).length = A.length + (C.length + 1) := by simp
      have hw : wrap64 ((A.length : Int) + 1) = ((A.length + 1 : Nat) : Int) := by rw [w64 (by omega) (by omega)]; omega
      have hy := hB y (by simp)
      have hd := With_done (A ++ y :: C) d hl _ (A.length + 1) (A ++ [d] ++ [y]) rfl (by omega) (by rw [List.length_append, List.length_append, List.length_singleton, List.length_singleton]; omega) (fun k h hk => by
        rw [List.getElem_append_right (by omega)]
        have := hB _ (List.getElem_mem (show k - A.length < (y :: C).length by rw [hl1] at h; simp; omega))
        omega)
      rw [show (A ++ y :: C).drop (A.length + 1) = C by rw [List.drop_append]; simp] at hd
      have h4 : (A ++ [(⟨d.f0, d.f1, d.f2, d.f3⟩ : S167)]).length < 4398046511104 := by rw [List.length_append, List.length_singleton]; omega
      apply ev_succ
      simp only [batonref25_with.l0, if_pos (show (A.length : Int) < ((A ++ y :: C).length : Int) by rw [hl1]; omega), Bool.false_eq_true, if_false, if_pos (show (0 : Int) ≤ (A.length : Int) by omega), rd_midR, decide_eq_true (show y.f0 ≥ d.f0 by omega)]
      apply ev_succ
      simp only [batonref25_with.j1, if_true, if_pos (show A.length < 4398046511104 by omega), Option.bind_some, if_pos (show (0 : Int) ≤ (A.length : Int) by omega), if_pos (show (A.length : Int) < ((A ++ y :: C).length : Int) by rw [hl1]; omega), rd_midR, if_neg (show ¬ y.f0 = d.f0 by omega), if_pos h4, hw]
      exact ev_eq hd (by simp)
theorem RT_mid (A C : List S115) (y d : S115) (h : RT (-1) ((A ++ y :: C).map cv)) (hy : y.f0 = d.f0) (hd : okD (cv d)) : RT (-1) ((A ++ d :: C).map cv) := by
  rw [RT_iff] at h ⊢
  rw [List.map_append, List.map_cons] at h ⊢
  obtain ⟨h1, h2⟩ := h
  rw [List.pairwise_append, List.pairwise_cons] at h2 ⊢
  have e : (cv y).f0 = (cv d).f0 := hy
  refine ⟨fun x hx => ?_, h2.1, ⟨fun z hz => ?_, h2.2.1.2⟩, fun a ha b hb => ?_⟩
  · rcases List.mem_append.1 hx with hx | hx
    · exact h1 x (List.mem_append_left _ hx)
    · rcases List.mem_cons.1 hx with rfl | hx
      · exact ⟨hd, by rw [← e]; exact (h1 (cv y) (List.mem_append_right _ (List.mem_cons_self ..))).2⟩
      · exact h1 x (List.mem_append_right _ (List.mem_cons_of_mem _ hx))
  · rw [← e]
    exact h2.2.1.1 z hz
  · rcases List.mem_cons.1 hb with rfl | hb
    · rw [← e]
      exact h2.2.2 a ha (cv y) (List.mem_cons_self ..)
    · exact h2.2.2 a ha b (List.mem_cons_of_mem _ hb)
theorem RT_ins (A B : List S115) (d : S115) (h : RT (-1) ((A ++ B).map cv)) (hA : ∀ x ∈ A, x.f0 < d.f0) (hB : ∀ x ∈ B, d.f0 < x.f0) (h0 : 0 ≤ d.f0) (hd : okD (cv d)) : RT (-1) ((A ++ d :: B).map cv) := by
  rw [RT_iff] at h ⊢
  rw [List.map_append] at h ⊢
  rw [List.map_cons]
  obtain ⟨h1, h2⟩ := h
  rw [List.pairwise_append] at h2 ⊢
  rw [List.pairwise_cons]
  refine ⟨fun x hx => ?_, h2.1, ⟨fun z hz => ?_, h2.2.1⟩, fun a ha b hb => ?_⟩
  · rcases List.mem_append.1 hx with hx | hx
    · exact h1 x (List.mem_append_left _ hx)
    · rcases List.mem_cons.1 hx with rfl | hx
      · exact ⟨hd, show -1 < d.f0 by omega⟩
      · exact h1 x (List.mem_append_right _ hx)
  · obtain ⟨q, hq, rfl⟩ := List.mem_map.1 hz
    exact hB q hq
  · rcases List.mem_cons.1 hb with rfl | hb
    · obtain ⟨q, hq, rfl⟩ := List.mem_map.1 ha
      exact hA q hq
    · exact h2.2.2 a ha b hb
theorem set_mid (A C : List S115) (y d : S115) : (A ++ y :: C).set ((A.length : Int)).toNat d = A ++ d :: C := by
  rw [Int.toNat_natCast]
  simp
theorem mapA {id : Int} {A : List S115} (hA : ∀ x ∈ A, x.f0 < id) : ∀ x ∈ A.map cv, x.f0 < id := fun x hx => by
  obtain ⟨q, hq, rfl⟩ := List.mem_map.1 hx
  exact hA q hq
theorem mapB {id : Int} {B : List S115} (hB : ∀ x ∈ B, id < x.f0) : ∀ x ∈ B.map cv, id < x.f0 := fun x hx => by
  obtain ⟨q, hq, rfl⟩ := List.mem_map.1 hx
  exact hB q hq
theorem clone_f (l : List S115) (hl : l.length ≤ 1000) : roster_Device_88.f l = some l := if_pos (by omega)
theorem Enrol_both (l : List S115) (id : Int) (hT : RT (-1) (l.map cv)) (hl : l.length ≤ 30) : ∃ a e, Ev (fun k => roster_Enrol.f k l id) (a, e) ∧ Ev (fun k => batonref25_Enrol.f k (l.map cv) id) (a.map cv, e) ∧ RT (-1) (a.map cv) ∧ a.length ≤ 1000 := by
  obtain ⟨A, B, rfl, hA, hB⟩ := split_at id l (-1) hT
  by_cases c1 : id < 0 ∨ id ≥ 16
  · refine ⟨A ++ B, 1, ?_, ?_, hT, by omega⟩
    · have hp : ∃ v, roster_place.f (A ++ B) id = some v := by
        rcases hB with hB | ⟨y, C, rfl, hy, hC⟩
        · exact ⟨_, place_absent id A B hA hB (by omega)⟩
        · exact ⟨_, place_found id A C y hA hy hC (by omega)⟩
      obtain ⟨v, hv⟩ := hp
      unfold roster_Enrol.f
      simp only [clone_f (A ++ B) (by omega), hv, Option.bind_some]
      by_cases c2 : id < 0
      · simp only [if_pos c2]
        apply ev_succ
        simp only [roster_Enrol.j0, if_true]
        exact ev_some _
      · simp only [if_neg c2, decide_eq_true (show id ≥ 16 by omega)]
        apply ev_succ
        simp only [roster_Enrol.j0, if_true]
        exact ev_some _
    · unfold batonref25_Enrol.f
      by_cases c2 : id < 0
      · simp only [if_pos c2]
        apply ev_succ
        simp only [batonref25_Enrol.j0, if_true]
        exact ev_some _
      · simp only [if_neg c2, decide_eq_true (show id > 15 by omega)]
        apply ev_succ
        simp only [batonref25_Enrol.j0, if_true]
        exact ev_some _
  · have hn0 : ¬ id < 0 := by omega
    have hn1 : ¬ id ≥ 16 := by omega
    have hn2 : ¬ id > 15 := by omega
    rcases hB with hB | ⟨y, C, rfl, hy, hC⟩
    · refine ⟨A ++ ⟨id, 1, false, 0⟩ :: B, 0, ?_, ?_, RT_ins A B ⟨id, 1, false, 0⟩ hT hA hB (by show 0 ≤ id; omega) ⟨by show id ≤ 15; omega, by show (1 : Int) ≤ 1; omega, by show (1 : Int) ≤ 1000; omega, by show (0 : Int) ≤ 0; omega, by show (0 : Int) ≤ 281474976710656; omega⟩, by simp at hl ⊢; omega⟩
      · unfold roster_Enrol.f
        simp only [clone_f (A ++ B) (by omega), place_absent id A B hA hB (by omega), Option.bind_some, if_neg hn0, decide_eq_false hn1]
        apply ev_succ
        simp only [roster_Enrol.j0, Bool.false_eq_true, if_false, roster_Device_90.f]
        rw [if_pos ⟨by omega, by simp; omega, rfl, by omega⟩, Int.toNat_natCast, List.take_left' rfl, List.drop_left' rfl]
        exact ev_eq (ev_some _) (by simp)
      · unfold batonref25_Enrol.f
        simp only [if_neg hn0, decide_eq_false hn2]
        apply ev_succ
        simp only [batonref25_Enrol.j0, Bool.false_eq_true, if_false]
        refine ev_bind (RFind_absent id A B hA hB (by omega)) ?_
        simp only [if_pos (show (-1 : Int) < 0 by decide)]
        rw [List.map_append]
        refine ev_bind (With_absent (A.map cv) (B.map cv) ⟨id, 1, false, 0⟩ (mapA hA) (mapB hB) (by simp at hl ⊢; omega)) ?_
        exact ev_eq (ev_some _) (by rw [List.map_append, List.map_cons]; rfl)
    · have hlen : (A.length : Int) < ((A ++ y :: C).length : Int) := by simp; omega
      have hlenM : (A.length : Int) < (((A ++ y :: C).map cv).length : Int) := by rw [List.length_map]; exact hlen
      have hokY : okD (cv y) := (((RT_iff _ _).1 hT).1 (cv y) (List.mem_map_of_mem (by simp))).1
      have hrdM : rd_T167 ((A ++ y :: C).map cv) (A.length : Int) = cv y := by
        have := rd_midR (A.map cv) (C.map cv) (cv y)
        rw [List.length_map] at this
        rw [List.map_append, List.map_cons]
        exact this
      have hf := RFind_found id A C y hA hy (by omega)
      have hPl := place_found id A C y hA hy hC (by omega)
      by_cases c3 : y.f2 = true
      · by_cases c4 : y.f1 ≥ 1000
        · refine ⟨A ++ y :: C, 16, ?_, ?_, hT, by omega⟩
          · unfold roster_Enrol.f
            simp only [clone_f (A ++ y :: C) (by omega), hPl, Option.bind_some, if_neg hn0, decide_eq_false hn1]
            apply ev_succ
            simp only [roster_Enrol.j0, Bool.false_eq_true, if_false, if_true, if_pos (show (0 : Int) ≤ (A.length : Int) by omega), if_pos hlen, rd_mid, if_pos c3, if_pos c4]
            exact ev_some _
          · unfold batonref25_Enrol.f
            simp only [if_neg hn0, decide_eq_false hn2]
            apply ev_succ
            simp only [batonref25_Enrol.j0, Bool.false_eq_true, if_false]
            refine ev_bind hf ?_
            simp only [if_neg (show ¬ (A.length : Int) < 0 by omega), if_pos (show (0 : Int) ≤ (A.length : Int) by omega), if_pos hlenM, hrdM, if_pos (show (cv y).f2 = true from c3), if_pos (show (cv y).f1 = 1000 by have : (cv y).f1 ≤ 1000 := hokY.2.2.1; have : (cv y).f1 = y.f1 := rfl; omega)]
            exact ev_some _
        · have hw : wrap64 (y.f1 + 1) = y.f1 + 1 := by have h1 : 1 ≤ y.f1 := hokY.2.1; rw [w64 (by omega) (by omega)]
          refine ⟨A ++ ⟨id, y.f1 + 1, false, 0⟩ :: C, 0, ?_, ?_, RT_mid A C y ⟨id, y.f1 + 1, false, 0⟩ hT hy ⟨by show id ≤ 15; omega, by have h1 : 1 ≤ y.f1 := hokY.2.1; show (1 : Int) ≤ y.f1 + 1; omega, by show y.f1 + 1 ≤ 1000; omega, by show (0 : Int) ≤ 0; omega, by show (0 : Int) ≤ 281474976710656; omega⟩, by simp at hl ⊢; omega⟩
          · unfold roster_Enrol.f
            simp only [clone_f (A ++ y :: C) (by omega), hPl, Option.bind_some, if_neg hn0, decide_eq_false hn1]
            apply ev_succ
            simp only [roster_Enrol.j0, Bool.false_eq_true, if_false, if_true, if_pos (show (0 : Int) ≤ (A.length : Int) by omega), if_pos hlen, rd_mid, if_pos c3, if_neg c4, set_mid, hw]
            exact ev_some _
          · unfold batonref25_Enrol.f
            simp only [if_neg hn0, decide_eq_false hn2]
            apply ev_succ
            simp only [batonref25_Enrol.j0, Bool.false_eq_true, if_false]
            refine ev_bind hf ?_
            simp only [if_neg (show ¬ (A.length : Int) < 0 by omega), if_pos (show (0 : Int) ≤ (A.length : Int) by omega), if_pos hlenM, hrdM, if_pos (show (cv y).f2 = true from c3), if_neg (show ¬ (cv y).f1 = 1000 by have : (cv y).f1 = y.f1 := rfl; omega), if_neg (show ¬ y.f1 = 1000 by omega), show (cv y).f1 = y.f1 from rfl, hw]
            rw [List.map_append, List.map_cons]
            refine ev_bind (With_found (A.map cv) (C.map cv) (cv y) ⟨id, y.f1 + 1, false, 0⟩ (mapA hA) hy (mapB hC) (by simp at hl ⊢; omega)) ?_
            exact ev_eq (ev_some _) (by rw [List.map_append, List.map_cons]; rfl)
      · refine ⟨A ++ y :: C, 12, ?_, ?_, hT, by omega⟩
        · unfold roster_Enrol.f
          simp only [clone_f (A ++ y :: C) (by omega), hPl, Option.bind_some, if_neg hn0, decide_eq_false hn1]
          apply ev_succ
          simp only [roster_Enrol.j0, Bool.false_eq_true, if_false, if_true, if_pos (show (0 : Int) ≤ (A.length : Int) by omega), if_pos hlen, rd_mid, if_neg c3]
          exact ev_some _
        · unfold batonref25_Enrol.f
          simp only [if_neg hn0, decide_eq_false hn2]
          apply ev_succ
          simp only [batonref25_Enrol.j0, Bool.false_eq_true, if_false]
          refine ev_bind hf ?_
          simp only [if_neg (show ¬ (A.length : Int) < 0 by omega), if_pos (show (0 : Int) ≤ (A.length : Int) by omega), if_pos hlenM, hrdM, if_neg (show ¬ (cv y).f2 = true from c3)]
          exact ev_some _
/-- Which one is there: by the program, and by the page. -/
theorem There_both (l : List S115) (id : Int) (hT : RT (-1) (l.map cv)) (hl : l.length ≤ 30) : (∃ e, roster_there.f l id = some (0, e) ∧ e ≠ 0 ∧ Ev (fun k => batonref25_There.f k (l.map cv) id) e) ∨ ∃ A C y, l = A ++ y :: C ∧ (∀ x ∈ A, x.f0 < id) ∧ y.f0 = id ∧ (∀ x ∈ C, id < x.f0) ∧ roster_there.f l id = some ((A.length : Int), 0) ∧ roster_place.f l id = some ((A.length : Int), true) ∧ Ev (fun k => batonref25_There.f k (l.map cv) id) 0 ∧ Ev (fun k => batonref25_Find.f k (l.map cv) id) (A.length : Int) ∧ rd_T167 (l.map cv) (A.length : Int) = cv y ∧ okD (cv y) := by
  obtain ⟨A, B, rfl, hA, hB⟩ := split_at id l (-1) hT
  rcases hB with hB | ⟨y, C, rfl, hy, hC⟩
  · refine .inl ⟨11, ?_, by decide, ?_⟩
    · simp only [roster_there.f, place_absent id A B hA hB (by omega), Option.bind_some, Bool.false_eq_true, if_false]
    · unfold batonref25_There.f
      refine ev_bind (RFind_absent id A B hA hB (by omega)) ?_
      simp only [if_pos (show (-1 : Int) < 0 by decide)]
      exact ev_some _
  · have hlen : (A.length : Int) < ((A ++ y :: C).length : Int) := by simp; omega
    have hlenM : (A.length : Int) < (((A ++ y :: C).map cv).length : Int) := by rw [List.length_map]; exact hlen
    have hokY : okD (cv y) := (((RT_iff _ _).1 hT).1 (cv y) (List.mem_map_of_mem (by simp))).1
    have hrdM : rd_T167 ((A ++ y :: C).map cv) (A.length : Int) = cv y := by
      have := rd_midR (A.map cv) (C.map cv) (cv y)
      rw [List.length_map] at this
      rw [List.map_append, List.map_cons]
      exact this
    have hf := RFind_found id A C y hA hy (by omega)
    have hPl := place_found id A C y hA hy hC (by omega)
    by_cases c3 : y.f2 = true
    · refine .inl ⟨15, ?_, by decide, ?_⟩
      · simp only [roster_there.f, hPl, Option.bind_some, if_true, if_pos (show (0 : Int) ≤ (A.length : Int) by omega), if_pos hlen, rd_mid, if_pos c3]
      · unfold batonref25_There.f
        refine ev_bind hf ?_
        simp only [if_neg (show ¬ (A.length : Int) < 0 by omega), if_pos (show (0 : Int) ≤ (A.length : Int) by omega), if_pos hlenM, hrdM, if_pos (show (cv y).f2 = true from c3)]
        exact ev_some _
    · refine .inr ⟨A, C, y, rfl, hA, hy, hC, ?_, hPl, ?_, hf, hrdM, hokY⟩
      · simp only [roster_there.f, hPl, Option.bind_some, if_true, if_pos (show (0 : Int) ≤ (A.length : Int) by omega), if_pos hlen, rd_mid, if_neg c3]
      · unfold batonref25_There.f
        refine ev_bind hf ?_
        simp only [if_neg (show ¬ (A.length : Int) < 0 by omega), if_pos (show (0 : Int) ≤ (A.length : Int) by omega), if_pos hlenM, hrdM, if_neg (show ¬ (cv y).f2 = true from c3)]
        exact ev_some _
theorem Revoke_both (l : List S115) (id : Int) (hT : RT (-1) (l.map cv)) (hl : l.length ≤ 30) : ∃ a e, roster_Revoke.f l id = some (a, e) ∧ Ev (fun k => batonref25_Revoke.f k (l.map cv) id) (a.map cv, e) ∧ RT (-1) (a.map cv) ∧ a.length ≤ 1000 := by
  rcases There_both l id hT hl with ⟨e, h1, h2, h3⟩ | ⟨A, C, y, rfl, hA, hy, hC, h1, h2, h3, h4, h5, h6⟩
  · refine ⟨l, e, ?_, ?_, hT, by omega⟩
    · simp only [roster_Revoke.f, clone_f l (by omega), h1, Option.bind_some, if_neg h2]
    · unfold batonref25_Revoke.f
      refine ev_bind h3 ?_
      simp only [if_neg h2]
      exact ev_some _
  · have hlen : (A.length : Int) < ((A ++ y :: C).length : Int) := by simp; omega
    have hlenM : (A.length : Int) < (((A ++ y :: C).map cv).length : Int) := by rw [List.length_map]; exact hlen
    refine ⟨A ++ ⟨y.f0, y.f1, true, y.f3⟩ :: C, 0, ?_, ?_, RT_mid A C y ⟨y.f0, y.f1, true, y.f3⟩ hT rfl h6, by simp at hl ⊢; omega⟩
    · simp only [roster_Revoke.f, clone_f (A ++ y :: C) (by omega), h1, Option.bind_some, if_true, if_pos (show (0 : Int) ≤ (A.length : Int) by omega), if_pos hlen, rd_mid, set_mid]
    · unfold batonref25_Revoke.f
      refine ev_bind h3 ?_
      simp only [if_true]
      refine ev_bind h4 ?_
      simp only [if_pos (show (0 : Int) ≤ (A.length : Int) by omega), if_pos hlenM, h5]
      rw [List.map_append, List.map_cons]
      refine ev_bind (With_found (A.map cv) (C.map cv) (cv y) ⟨(cv y).f0, (cv y).f1, true, (cv y).f3⟩ (by rw [show (cv y).f0 = id from hy]; exact mapA hA) rfl (by rw [show (cv y).f0 = id from hy]; exact mapB hC) (by simp at hl ⊢; omega)) ?_
      exact ev_eq (ev_some _) (by rw [List.map_append, List.map_cons]; rfl)
theorem Accept_both (l : List S115) (id req : Int) (hT : RT (-1) (l.map cv)) (hl : l.length ≤ 30) : ∃ a e, roster_Accept.f l id req = some (a, e) ∧ roster_May.f l id req = some e ∧ Ev (fun k => batonref25_Accept.f k (l.map cv) id req) (a.map cv, e) ∧ RT (-1) (a.map cv) ∧ a.length ≤ 1000 := by
  rcases There_both l id hT hl with ⟨e, h1, h2, h3⟩ | ⟨A, C, y, rfl, hA, hy, hC, h1, h2, h3, h4, h5, h6⟩
  · have hm : roster_May.f l id req = some e := by simp only [roster_May.f, h1, Option.bind_some, if_neg h2]
    refine ⟨l, e, ?_, hm, ?_, hT, by omega⟩
    · simp only [roster_Accept.f, clone_f l (by omega), hm, Option.bind_some, if_neg h2]
    · unfold batonref25_Accept.f
      refine ev_bind h3 ?_
      simp only [if_neg h2]
      exact ev_some _
  · have hlen : (A.length : Int) < ((A ++ y :: C).length : Int) := by simp; omega
    have hlenM : (A.length : Int) < (((A ++ y :: C).map cv).length : Int) := by rw [List.length_map]; exact hlen
    have bad : (req ≤ y.f3 ∨ req > 281474976710656) → ∃ a e, roster_Accept.f (A ++ y :: C) id req = some (a, e) ∧ roster_May.f (A ++ y :: C) id req = some e ∧ Ev (fun k => batonref25_Accept.f k ((A ++ y :: C).map cv) id req) (a.map cv, e) ∧ RT (-1) (a.map cv) ∧ a.length ≤ 1000 := by
      intro hb
      have hm : roster_May.f (A ++ y :: C) id req = some 20 := by
        simp only [roster_May.f, h1, Option.bind_some, if_true, if_pos (show (0 : Int) ≤ (A.length : Int) by omega), if_pos hlen, rd_mid]
        by_cases c : req ≤ y.f3
        · rw [if_pos c]
        · rw [if_neg c, if_pos (by omega)]
      refine ⟨A ++ y :: C, 20, ?_, hm, ?_, hT, by omega⟩
      · simp only [roster_Accept.f, clone_f (A ++ y :: C) (by omega), hm, Option.bind_some, if_neg (show ¬ (20 : Int) = 0 by decide)]
      · unfold batonref25_Accept.f
        refine ev_bind h3 ?_
        simp only [if_true]
        refine ev_bind h4 ?_
        simp only [if_pos (show (0 : Int) ≤ (A.length : Int) by omega), if_pos hlenM, h5, show (cv y).f3 = y.f3 from rfl]
        by_cases c : req ≤ y.f3
        · simp only [if_pos c]
          exact ev_some _
        · simp only [if_neg c, if_pos (show req > 281474976710656 by omega)]
          exact ev_some _
    by_cases c1 : req ≤ y.f3
    · exact bad (.inl c1)
    · by_cases c2 : req > 281474976710656
      · exact bad (.inr c2)
      · have hm : roster_May.f (A ++ y :: C) id req = some 0 := by
          simp only [roster_May.f, h1, Option.bind_some, if_true, if_pos (show (0 : Int) ≤ (A.length : Int) by omega), if_pos hlen, rd_mid, if_neg c1, if_neg c2]
        have h3y : (cv y).f3 = y.f3 := rfl
        refine ⟨A ++ ⟨y.f0, y.f1, y.f2, req⟩ :: C, 0, ?_, hm, ?_, RT_mid A C y ⟨y.f0, y.f1, y.f2, req⟩ hT rfl ⟨h6.1, h6.2.1, h6.2.2.1, by have := h6.2.2.2.1; show 0 ≤ req; omega, by show req ≤ 281474976710656; omega⟩, by simp at hl ⊢; omega⟩
        · simp only [roster_Accept.f, clone_f (A ++ y :: C) (by omega), hm, h2, Option.bind_some, if_true, if_pos (show (0 : Int) ≤ (A.length : Int) by omega), if_pos hlen, rd_mid, set_mid]
        · unfold batonref25_Accept.f
          refine ev_bind h3 ?_
          simp only [if_true]
          refine ev_bind h4 ?_
          simp only [if_pos (show (0 : Int) ≤ (A.length : Int) by omega), if_pos hlenM, h5, h3y, if_neg c1, if_neg c2]
          rw [List.map_append, List.map_cons]
          refine ev_bind (With_found (A.map cv) (C.map cv) (cv y) ⟨(cv y).f0, (cv y).f1, (cv y).f2, req⟩ (by rw [show (cv y).f0 = id from hy]; exact mapA hA) rfl (by rw [show (cv y).f0 = id from hy]; exact mapB hC) (by simp at hl ⊢; omega)) ?_
          exact ev_eq (ev_some _) (by rw [List.map_append, List.map_cons]; rfl)
theorem RosterChanges : batonlaw25_RosterChanges.Pure := by
  intro l id req _ _ _
  refine Ev.rounds ?_
  unfold batonlaw25_RosterChanges.f
  refine ev_bind awake25 ?_
  simp only [if_true]
  by_cases c : (l.length : Int) > 30
  · simp only [if_pos c]
    exact ev_some _
  · have hl : l.length ≤ 30 := by omega
    simp only [if_neg c]
    refine ev_bind (Ref_ev l (by omega)) ?_
    refine ev_bind (RRight_ev (l.map cv) (by rw [List.length_map]; omega)) ?_
    refine ev_bind (PRight_ev l (by omega)) ?_
    simp only [bne_self_eq_false, Bool.false_eq_true, if_false]
    by_cases hT : RT (-1) (l.map cv)
    · obtain ⟨a, e, a1, a2, a3, a4⟩ := Enrol_both l id hT hl
      obtain ⟨b, f, b1, b2, b3, b4⟩ := Revoke_both l id hT hl
      obtain ⟨c', g, c1, c2, c3, c4, c5⟩ := Accept_both l id req hT hl
      simp only [decide_eq_true hT, if_true]
      refine ev_bind a1 ?_
      simp only [b1, c1, Option.bind_some]
      refine ev_bind a2 ?_
      simp only [if_true]
      refine ev_bind (Ref_ev a (by omega)) (ev_bind (RSame_ev (a.map cv) (by rw [List.length_map]; omega)) ?_)
      simp only [if_true]
      refine ev_bind (PRight_ev a (by omega)) ?_
      simp only [decide_eq_true a3, Bool.not_true]
      apply ev_succ
      simp only [batonlaw25_RosterChanges.j0, Bool.false_eq_true, if_false]
      refine ev_bind b2 ?_
      simp only [if_true]
      refine ev_bind (Ref_ev b (by omega)) (ev_bind (RSame_ev (b.map cv) (by rw [List.length_map]; omega)) ?_)
      simp only [if_true]
      refine ev_bind (PRight_ev b (by omega)) ?_
      simp only [decide_eq_true b3, Bool.not_true]
      apply ev_succ
      simp only [batonlaw25_RosterChanges.j1, Bool.false_eq_true, if_false]
      refine ev_bind c3 ?_
      simp only [if_true]
      refine ev_bind (Ref_ev c' (by omega)) (ev_bind (RSame_ev (c'.map cv) (by rw [List.length_map]; omega)) ?_)
      simp only [if_true]
      refine ev_bind (PRight_ev c' (by omega)) ?_
      simp only [decide_eq_true c4, if_true, c2, Option.bind_some]
      exact ev_bind (Ref_ev l (by omega)) (ev_bind (RSame_ev (l.map cv) (by rw [List.length_map]; omega)) (ev_some _))
    · simp only [decide_eq_false hT, Bool.false_eq_true, if_false]
      exact ev_some _

end Go.Proofs.Ytdbfclfglpbpmaa.Pure
