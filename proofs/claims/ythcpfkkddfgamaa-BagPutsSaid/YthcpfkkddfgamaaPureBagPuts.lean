/- The law BagPuts, of plain lists: a bag with some more is the bag and these behind it, whatever is done to what is read out of it. No condition beside the sizes that the row itself gives. -/
import Derived.Test.YthcpfkkddfgamaaLF39
namespace Go.Proofs.Ythcpfkkddfgamaa.Pure
open Go.RowKit Go.Proofs.Ythcpfkkddfgamaa.Base Go.Proofs.YthcpfkkddfgamaaW.PrintWords Go.Proofs.YthcpfkkddfgamaaW.PrintMore Go.Proofs.Ythcpfkkddfgamaa.PF39
set_option linter.unusedVariables false
set_option linter.unusedSimpArgs false
open Go.Proofs.Ythcpfkkddfgamaa.LF39

theorem BSame_l0 (a : List S108) (hl : a.length ≤ 1000000) : ∀ (d i : Nat), a.length - i = d → i ≤ a.length → Ev (fun k => batonref39_Same.l0 k a a (i : Int)) true := by
  intro d
  induction d with
  | zero =>
    intro i hd hi
    obtain rfl : i = a.length := by omega
    apply ev_succ
    simp only [batonref39_Same.l0, if_neg (show ¬ ((a.length : Int) < (a.length : Int)) by omega)]
    exact ev_some _
  | succ d ih =>
    intro i hd hi
    have hlt : i < a.length := by omega
    have hw : wrap64 ((i : Int) + 1) = ((i + 1 : Nat) : Int) := by rw [w64 (by omega) (by omega)]; omega
    apply ev_succ
    simp only [batonref39_Same.l0, if_pos (show (i : Int) < (a.length : Int) by omega), if_pos (show (0 : Int) ≤ (i : Int) by omega), if_true, hw]
    exact ih (i + 1) (by omega) (by omega)
theorem BSame_ev (a : List S108) (hl : a.length ≤ 1000000) : Ev (fun k => batonref39_Same.f k a a) true := by
  unfold batonref39_Same.f
  simp only [if_true]
  exact BSame_l0 a hl a.length 0 (by omega) (by omega)
theorem BP_l0 (l : List S50) (X : List S50) (hl : l.length ≤ 1000) (hX : X.length ≤ 1000) (hFX : Few X) (a b c : Int) : ∀ (d : Nat) (s : List Int) (i : Nat), s.length - i = d → i ≤ s.length → s.length ≤ 40 → Ev (fun k => batonlaw39_BagPuts.l0 k l (l.map cv) X (X.map cv) (i : Int) a b c s) true := by
  intro d
  induction d with
  | zero =>
    intro s i hd hi hs
    obtain rfl : i = s.length := by omega
    apply ev_succ
    simp only [batonlaw39_BagPuts.l0, if_neg (show ¬ ((s.length : Int) < (s.length : Int)) by omega)]
    refine ev_bind (Put_ev X [⟨a, b, c, s⟩] hX (by simp) (by intro x hx; rw [List.mem_singleton.1 hx]; show (s.length : Int) ≤ 40; omega)) ?_
    refine ev_bind (Ref_ev X (by omega)) ?_
    refine ev_bind (BSame_ev (X.map cv) (by rw [List.length_map]; omega)) ?_
    simp only [if_true]
    refine ev_bind (Ref_ev l (by omega)) ?_
    exact ev_bind (BSame_ev (l.map cv) (by rw [List.length_map]; omega)) (ev_some _)
  | succ d ih =>
    intro s i hd hi hs
    have hw : wrap64 ((i : Int) + 1) = ((i + 1 : Nat) : Int) := by rw [w64 (by omega) (by omega)]; omega
    apply ev_succ
    simp only [batonlaw39_BagPuts.l0, if_pos (show (i : Int) < (s.length : Int) by omega), if_pos (show (0 : Int) ≤ (i : Int) by omega), hw]
    exact ih _ (i + 1) (by rw [List.length_set]; omega) (by rw [List.length_set]; omega) (by rw [List.length_set]; omega)
theorem BagPuts : batonlaw39_BagPuts.Pure := by
  intro l more n _ _ hn
  obtain ⟨hn0, hn1⟩ := bounds_i64 hn
  refine Ev.rounds ?_
  unfold batonlaw39_BagPuts.f
  refine ev_bind awake39 ?_
  simp only [if_true]
  have hf1 := few_ev l
  have hf2 := few_ev more
  refine ev_bind hf1 ?_
  by_cases c1 : l.length ≤ 40 ∧ Few l
  · simp only [decide_eq_true c1, if_true]
    refine ev_bind hf2 ?_
    by_cases c2 : more.length ≤ 40 ∧ Few more
    · obtain ⟨l1, F1⟩ := c1
      obtain ⟨l2, F2⟩ := c2
      have hFX : Few (l ++ more) := fun x hx => (List.mem_append.1 hx).elim (F1 x) (F2 x)
      have hXl : (l ++ more).length ≤ 80 := by rw [List.length_append]; omega
      simp only [decide_eq_true (show more.length ≤ 40 ∧ Few more from ⟨l2, F2⟩), Bool.not_true]
      apply ev_succ
      simp only [batonlaw39_BagPuts.j0, Bool.false_eq_true, if_false]
      refine ev_bind (Ref_ev l (by omega)) ?_
      refine ev_bind (Put_ev l more (by omega) (by omega) F2) ?_
      simp only [Option.bind_some, List.length_nil, List.length_map, if_pos (show 0 + l.length < 2932031007402 by omega), List.nil_append]
      refine ev_bind (Ref_ev more (by omega)) ?_
      simp only [List.length_map, if_pos (show l.length + more.length < 2932031007402 by omega), Option.bind_some, ← List.map_append]
      generalize hX : l ++ more = X at hFX hXl
      have hj1 : ∀ (ok : Bool) (a b c : Int) (s : List Int), bag_At.f X n = some (a, b, c, s, ok) → ok = decide (0 ≤ n ∧ n < (X.length : Int)) → (ok = false → a = 0 ∧ s = []) → (∀ h : ok = true, s.length ≤ 40 ∧ ([⟨a, b, c, s⟩] : List S50).map cv = ((X.map cv).take (n + 1).toNat).drop n.toNat) → Ev (fun k => batonlaw39_BagPuts.j1 k l n (l.map cv) X (X.map cv) ok false a b c s) true := by
        intro ok a b c s _ hok h0 h1
        apply ev_succ
        simp only [batonlaw39_BagPuts.j1, Bool.false_eq_true, if_false]
        cases ok with
        | false =>
          obtain ⟨rfl, rfl⟩ := h0 rfl
          simp only [Bool.false_eq_true, if_false, if_true]
          exact ev_some _
        | true =>
          obtain ⟨hs, he⟩ := h1 rfl
          have hb := of_decide_eq_true hok.symm
          have hw : wrap64 (n + 1) = n + 1 := w64 (by omega) (by omega)
          simp only [if_true]
          refine ev_bind (Ref_ev [⟨a, b, c, s⟩] (by simp)) ?_
          simp only [hw, if_pos hb.1, if_pos (show n ≤ n + 1 by omega), List.length_map, if_pos (show n + 1 ≤ (X.length : Int) by omega), ← he]
          refine ev_bind (BSame_ev _ (by simp)) ?_
          simp only [if_true]
          exact BP_l0 l X (by omega) (by omega) hFX a b c s.length s 0 (by omega) (by omega) hs
      by_cases c3 : 0 ≤ n ∧ n < (X.length : Int)
      · obtain ⟨m, rfl⟩ := Int.eq_ofNat_of_zero_le c3.1
        have hm : m < X.length := by omega
        have h40 := Few_len hFX hm
        have hAt : bag_At.f X (m : Int) = some (X[m].f0, X[m].f1, X[m].f2, X[m].f3, true) := by
          simp only [bag_At.f, if_neg (show ¬ (m : Int) < 0 by omega), if_neg (show ¬ (m : Int) ≥ (X.length : Int) by omega), if_pos c3.1, if_pos c3.2, rd50 X m hm, slices_Clone_byte_byte.f, if_pos (show (X[m]).f3.length < 140737488355328 by omega), Option.bind_some]
        have hj := hj1 true _ _ _ _ hAt (decide_eq_true c3).symm (fun h => by cases h) (fun _ => ⟨h40, by
          rw [show ((m : Int) + 1).toNat = m + 1 by omega, show ((m : Int)).toNat = m by omega, List.take_succ_eq_append_getElem (by rw [List.length_map]; exact hm), List.drop_append_of_le_length (by rw [List.length_take, List.length_map]; omega), List.drop_of_length_le (by rw [List.length_take, List.length_map]; omega), List.nil_append, List.getElem_map]
          rfl⟩)
        simp only [hAt, Option.bind_some]
        refine ev_bind (Ref_ev X (by omega)) ?_
        refine ev_bind (BSame_ev (X.map cv) (by rw [List.length_map]; omega)) ?_
        simp only [if_true, if_pos (show (m : Int) ≥ 0 by omega), List.length_map, decide_eq_true c3.2, bne_self_eq_false]
        exact hj
      · have hAt : bag_At.f X n = some (0, 0, 0, [], false) := by
          by_cases c4 : n < 0
          · simp only [bag_At.f, if_pos c4]
          · simp only [bag_At.f, if_neg c4, if_pos (show n ≥ (X.length : Int) by omega)]
        have hj := hj1 false _ _ _ _ hAt (decide_eq_false c3).symm (fun _ => ⟨rfl, rfl⟩) (fun h => by cases h)
        simp only [hAt, Option.bind_some]
        refine ev_bind (Ref_ev X (by omega)) ?_
        refine ev_bind (BSame_ev (X.map cv) (by rw [List.length_map]; omega)) ?_
        by_cases c5 : n ≥ 0
        · simp only [if_true, if_pos c5, List.length_map, decide_eq_false (show ¬ n < (X.length : Int) by omega), bne_self_eq_false]
          exact hj
        · simp only [if_true, if_neg c5, bne_self_eq_false]
          exact hj
    · simp only [decide_eq_false c2, Bool.not_false]
      apply ev_succ
      simp only [batonlaw39_BagPuts.j0, if_true]
      exact ev_some _
  · simp only [decide_eq_false c1, Bool.false_eq_true, if_false]
    apply ev_succ
    simp only [batonlaw39_BagPuts.j0, if_true]
    exact ev_some _

end Go.Proofs.Ythcpfkkddfgamaa.Pure
