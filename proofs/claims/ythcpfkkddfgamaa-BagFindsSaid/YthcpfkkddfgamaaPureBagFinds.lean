/- The law BagFinds, of plain lists: which one is the last between two, how many there are, and which is the first to somebody with any bytes, is what the page says. No condition beside the sizes that the row itself gives. -/
import Derived.Test.YthcpfkkddfgamaaLF39F
namespace Go.Proofs.Ythcpfkkddfgamaa.Pure
open Go.RowKit Go.Proofs.Ythcpfkkddfgamaa.Base Go.Proofs.YthcpfkkddfgamaaW.PrintWords Go.Proofs.YthcpfkkddfgamaaW.PrintMore Go.Proofs.Ythcpfkkddfgamaa.PF39F
set_option linter.unusedVariables false
set_option linter.unusedSimpArgs false
open Go.Proofs.Ythcpfkkddfgamaa.LF39F

theorem nums_back : ∀ (a : List Int), Bytes a → (a.map fun n => UInt8.ofNat n.toNat).map (fun u => (u.toNat : Int)) = a
  | [], _ => rfl
  | x :: t, h => by
    have h1 := h x (by simp)
    have h2 := nums_back t (fun y hy => h y (by simp [hy]))
    rw [List.map_cons, List.map_cons, h2]
    congr 1
    simp
    omega
theorem strs_iff {a b : List Int} (ha : Bytes a) (hb : Bytes b) : (strOfNums a).toList = (strOfNums b).toList ↔ a = b := by
  rw [ByteArray.toList_eq, ByteArray.toList_eq, strOfNums_data, strOfNums_data]
  constructor
  · intro e
    have e' : (a.map fun n => UInt8.ofNat n.toNat) = (b.map fun n => UInt8.ofNat n.toNat) := by simpa using e
    rw [← nums_back a ha, ← nums_back b hb, e']
  · intro e
    rw [e]
def pl (a b : Int) : List S50 → Int → List Int
  | [], _ => []
  | x :: t, i => if x.f0 = a ∧ x.f1 = b then i :: pl a b t (i + 1) else pl a b t (i + 1)
theorem pl_app (a b : Int) (x : S50) : ∀ (l : List S50) (i : Int), pl a b (l ++ [x]) i = pl a b l i ++ (if x.f0 = a ∧ x.f1 = b then [i + (l.length : Int)] else [])
  | [], i => by
    show (if x.f0 = a ∧ x.f1 = b then i :: pl a b [] (i + 1) else pl a b [] (i + 1)) = _
    split <;> simp [pl]
  | y :: t, i => by
    show (if y.f0 = a ∧ y.f1 = b then i :: pl a b (t ++ [x]) (i + 1) else pl a b (t ++ [x]) (i + 1)) = (if y.f0 = a ∧ y.f1 = b then i :: pl a b t (i + 1) else pl a b t (i + 1)) ++ _
    rw [pl_app a b x t (i + 1), show i + 1 + (t.length : Int) = i + ((y :: t).length : Int) by simp; omega]
    split <;> rfl
theorem pl_len (a b : Int) : ∀ (l : List S50) (i : Int), (pl a b l i).length ≤ l.length
  | [], i => Nat.le_refl _
  | y :: t, i => by
    have := pl_len a b t (i + 1)
    unfold pl
    split <;> simp <;> omega
theorem take1 (l : List S50) (i : Nat) (h : i < l.length) : l.take (i + 1) = l.take i ++ [l[i]] := (List.take_append_getElem h).symm
theorem pl_step (a b : Int) (l : List S50) (i : Nat) (h : i < l.length) : pl a b (l.take (i + 1)) 0 = pl a b (l.take i) 0 ++ (if l[i].f0 = a ∧ l[i].f1 = b then [(i : Int)] else []) := by
  rw [take1 l i h, pl_app, List.length_take, Nat.min_eq_left (by omega), Int.zero_add]
theorem Places_l0 (l : List S50) (a b : Int) (hl : l.length ≤ 1000000) : ∀ (d i : Nat), l.length - i = d → i ≤ l.length → Ev (fun k => batonref39_Places.l0 k (l.map cv) a b (pl a b (l.take i) 0) (i : Int)) (pl a b l 0) := by
  intro d
  induction d with
  | zero =>
    intro i hd hi
    obtain rfl : i = l.length := by omega
    apply ev_succ
    simp only [batonref39_Places.l0, List.length_map, if_neg (show ¬ ((l.length : Int) < (l.length : Int)) by omega)]
    exact ev_eq (ev_some _) (by rw [List.take_length])
  | succ d ih =>
    intro i hd hi
    have hlt : i < l.length := by omega
    have hltm : i < (l.map cv).length := by rw [List.length_map]; exact hlt
    have hw : wrap64 ((i : Int) + 1) = ((i + 1 : Nat) : Int) := by rw [w64 (by omega) (by omega)]; omega
    have hn : (pl a b (l.take i) 0).length < 17592186044416 := by have := pl_len a b (l.take i) 0; rw [List.length_take] at this; omega
    have h := ih (i + 1) (by omega) (by omega)
    rw [pl_step a b l i hlt] at h
    apply ev_succ
    simp only [batonref39_Places.l0, List.length_map, if_pos (show (i : Int) < (l.length : Int) by omega), if_pos (show (0 : Int) ≤ (i : Int) by omega), rd108 (l.map cv) i hltm, List.getElem_map, hw, if_pos hn]
    by_cases c1 : l[i].f0 = a
    · simp only [if_pos (show (cv l[i]).f0 = a from c1)]
      by_cases c2 : l[i].f1 = b
      · simp only [if_pos (show (cv l[i]).f1 = b from c2)]
        rw [if_pos ⟨c1, c2⟩] at h
        exact h
      · simp only [if_neg (show ¬ (cv l[i]).f1 = b from c2)]
        rw [if_neg (fun h => c2 h.2), List.append_nil] at h
        exact h
    · simp only [if_neg (show ¬ (cv l[i]).f0 = a from c1)]
      rw [if_neg (fun h => c1 h.1), List.append_nil] at h
      exact h
theorem Places_ev (l : List S50) (a b : Int) (hl : l.length ≤ 1000000) : Ev (fun k => batonref39_Places.f k (l.map cv) a b) (pl a b l 0) := by
  unfold batonref39_Places.f
  exact Places_l0 l a b hl l.length 0 (by omega) (by omega)
theorem Last_l0 (l : List S50) (a b : Int) (hl : l.length ≤ 1000000) : ∀ (i : Nat), i ≤ l.length → Ev (fun k => bag_Last.l0 k l a b ((i : Int) - 1)) ((pl a b (l.take i) 0).getLast?.getD (-1)) := by
  intro i
  induction i with
  | zero =>
    intro hi
    apply ev_succ
    simp only [bag_Last.l0, if_neg (show ¬ (((0 : Nat) : Int) - 1 ≥ 0) by omega)]
    exact ev_some _
  | succ i ih =>
    intro hi
    have hlt : i < l.length := by omega
    have hw : wrap64 ((i : Int) - 1) = (i : Int) - 1 := w64 (by omega) (by omega)
    have hi1 : (((i + 1 : Nat) : Int) - 1) = (i : Int) := by omega
    have h := ih (by omega)
    rw [pl_step a b l i hlt, hi1]
    apply ev_succ
    simp only [bag_Last.l0, if_pos (show (i : Int) ≥ 0 by omega), if_pos (show (0 : Int) ≤ (i : Int) by omega), if_pos (show (i : Int) < (l.length : Int) by omega), rd50 l i hlt, hw]
    by_cases c1 : l[i].f0 = a
    · simp only [if_pos c1]
      by_cases c2 : l[i].f1 = b
      · simp only [if_pos c2, if_pos (show a = a ∧ b = b from ⟨rfl, rfl⟩), c1, c2]
        refine ev_eq (ev_some _) ?_
        simp
      · simp only [if_neg c2]
        rw [if_neg (fun h => c2 h.2), List.append_nil]
        exact h
    · simp only [if_neg c1]
      rw [if_neg (fun h => c1 h.1), List.append_nil]
      exact h
theorem Last_ev (l : List S50) (a b : Int) (hl : l.length ≤ 1000000) : Ev (fun k => bag_Last.f k l a b) ((pl a b l 0).getLast?.getD (-1)) := by
  unfold bag_Last.f
  rw [w64 (by omega) (by omega)]
  have := Last_l0 l a b hl l.length (Nat.le_refl _)
  rw [List.take_length] at this
  exact this
theorem Count_l0 (l : List S50) (a b : Int) (hl : l.length ≤ 1000000) : ∀ (d i : Nat), l.length - i = d → i ≤ l.length → Ev (fun k => bag_Count.l0 k a b ((pl a b (l.take i) 0).length : Int) l (l.length : Int) (i : Int)) ((pl a b l 0).length : Int) := by
  intro d
  induction d with
  | zero =>
    intro i hd hi
    obtain rfl : i = l.length := by omega
    apply ev_succ
    simp only [bag_Count.l0, if_neg (show ¬ ((l.length : Int) < (l.length : Int)) by omega)]
    exact ev_eq (ev_some _) (by rw [List.take_length])
  | succ d ih =>
    intro i hd hi
    have hlt : i < l.length := by omega
    have hw : wrap64 ((i : Int) + 1) = ((i + 1 : Nat) : Int) := by rw [w64 (by omega) (by omega)]; omega
    have hle : (pl a b (l.take i) 0).length ≤ i := by have := pl_len a b (l.take i) 0; rw [List.length_take] at this; omega
    have hw2 : wrap64 (((pl a b (l.take i) 0).length : Int) + 1) = (((pl a b (l.take i) 0).length + 1 : Nat) : Int) := by rw [w64 (by omega) (by omega)]; omega
    have h := ih (i + 1) (by omega) (by omega)
    rw [pl_step a b l i hlt] at h
    apply ev_succ
    simp only [bag_Count.l0, if_pos (show (i : Int) < (l.length : Int) by omega), if_pos (show (0 : Int) ≤ (i : Int) by omega), rd50 l i hlt, hw, hw2]
    by_cases c1 : l[i].f0 = a
    · simp only [if_pos c1]
      by_cases c2 : l[i].f1 = b
      · simp only [if_pos c2]
        rw [if_pos ⟨c1, c2⟩, List.length_append, List.length_singleton] at h
        exact h
      · simp only [if_neg c2]
        rw [if_neg (fun h => c2 h.2), List.append_nil] at h
        exact h
    · simp only [if_neg c1]
      rw [if_neg (fun h => c1 h.1), List.append_nil] at h
      exact h
theorem Count_ev (l : List S50) (a b : Int) (hl : l.length ≤ 1000000) : Ev (fun k => bag_Count.f k l a b) ((pl a b l 0).length : Int) := by
  unfold bag_Count.f
  exact Count_l0 l a b hl l.length 0 (by omega) (by omega)
theorem RFind_l0 (l : List S50) (a : Int) (b : List Int) (hl : l.length ≤ 1000000) (hB : ∀ x ∈ l, Bytes x.f3) (hb : Bytes b) : ∀ (d i : Nat), l.length - i = d → i ≤ l.length → Ev (fun k => batonref39_Find.l0 k (l.map cv) a b (i : Int)) (idxOf (fun x => x.f1 == a && decide (x.f3 = b)) (l.drop i) (i : Int)) := by
  intro d
  induction d with
  | zero =>
    intro i hd hi
    obtain rfl : i = l.length := by omega
    apply ev_succ
    simp only [batonref39_Find.l0, List.length_map, if_neg (show ¬ ((l.length : Int) < (l.length : Int)) by omega)]
    exact ev_eq (ev_some _) (by rw [List.drop_length]; rfl)
  | succ d ih =>
    intro i hd hi
    have hlt : i < l.length := by omega
    have hltm : i < (l.map cv).length := by rw [List.length_map]; exact hlt
    have hw : wrap64 ((i : Int) + 1) = ((i + 1 : Nat) : Int) := by rw [w64 (by omega) (by omega)]; omega
    have h := ih (i + 1) (by omega) (by omega)
    have hs := strs_iff (hB _ (List.getElem_mem hlt)) hb
    have e : idxOf (fun x => x.f1 == a && decide (x.f3 = b)) (l.drop i) (i : Int) = if (l[i].f1 == a && decide (l[i].f3 = b)) = true then (i : Int) else idxOf (fun x => x.f1 == a && decide (x.f3 = b)) (l.drop (i + 1)) ((i + 1 : Nat) : Int) := by
      rw [List.drop_eq_getElem_cons hlt]
      rfl
    rw [e]
    apply ev_succ
    simp only [batonref39_Find.l0, List.length_map, if_pos (show (i : Int) < (l.length : Int) by omega), if_pos (show (0 : Int) ≤ (i : Int) by omega), rd108 (l.map cv) i hltm, List.getElem_map, hw]
    by_cases c1 : l[i].f1 = a
    · simp only [if_pos (show (cv l[i]).f1 = a from c1), show (cv l[i]).f3 = l[i].f3 from rfl]
      by_cases c2 : l[i].f3 = b
      · simp only [if_pos (hs.2 c2)]
        refine ev_eq (ev_some _) ?_
        rw [if_pos (by simp [c1, c2])]
      · simp only [if_neg (fun h => c2 (hs.1 h))]
        rw [if_neg (by simp [c2])]
        exact h
    · simp only [if_neg (show ¬ (cv l[i]).f1 = a from c1)]
      rw [if_neg (by simp [c1])]
      exact h
theorem RFind_ev (l : List S50) (a : Int) (b : List Int) (hl : l.length ≤ 1000000) (hB : ∀ x ∈ l, Bytes x.f3) (hb : Bytes b) : Ev (fun k => batonref39_Find.f k (l.map cv) a b) (idxOf (fun x => x.f1 == a && decide (x.f3 = b)) l 0) := by
  unfold batonref39_Find.f
  exact RFind_l0 l a b hl hB hb l.length 0 (by omega) (by omega)
theorem BagFinds : batonlaw39_BagFinds.Pure := by
  intro l a b t hl _ _ ht
  have hB : ∀ x ∈ l, Bytes x.f3 := fun x hx => bytes_of (hl.2 x hx).2.2.2.2
  have hb : Bytes t := bytes_of ht.2
  refine Ev.rounds ?_
  unfold batonlaw39_BagFinds.f
  refine ev_bind awake39 ?_
  simp only [if_true]
  refine ev_bind (few_ev l) ?_
  by_cases c1 : l.length ≤ 40 ∧ Few l
  · have hl1 : l.length ≤ 1000000 := by have := c1.1; omega
    simp only [decide_eq_true c1, if_true]
    apply ev_succ
    by_cases c2 : (t.length : Int) > 40
    · simp only [batonlaw39_BagFinds.j0, decide_eq_true c2, if_true]
      exact ev_some _
    · simp only [batonlaw39_BagFinds.j0, decide_eq_false c2, Bool.false_eq_true, if_false]
      refine ev_bind (Ref_ev l hl1) (ev_bind (Places_ev l a b hl1) ?_)
      have hj : Ev (fun k => batonlaw39_BagFinds.j1 k l t (pl a b l 0) ((pl a b l 0).getLast?.getD (-1)) a b) true := by
        apply ev_succ
        simp only [batonlaw39_BagFinds.j1]
        refine ev_bind (Last_ev l a b hl1) ?_
        simp only [if_true]
        refine ev_bind (Count_ev l a b hl1) ?_
        simp only [if_true, bag_Find.f, Option.bind_some]
        refine ev_bind (Ref_ev l hl1) (ev_bind (RFind_ev l b t hl1 hB hb) ?_)
        exact ev_eq (ev_some _) (by simp)
      have hlen := pl_len a b l 0
      have hw : wrap64 (((pl a b l 0).length : Int) - 1) = ((pl a b l 0).length : Int) - 1 := w64 (by omega) (by omega)
      by_cases c3 : ((pl a b l 0).length : Int) > 0
      · simp only [if_pos c3, hw, if_pos (show 0 ≤ ((pl a b l 0).length : Int) - 1 by omega), if_pos (show ((pl a b l 0).length : Int) - 1 < ((pl a b l 0).length : Int) by omega)]
        have e : rd (pl a b l 0) (((pl a b l 0).length : Int) - 1) = (pl a b l 0).getLast?.getD (-1) := by
          generalize pl a b l 0 = p at c3
          have h1 : p.length - 1 < p.length := by omega
          rw [show (p.length : Int) - 1 = ((p.length - 1 : Nat) : Int) by omega, rd_lt h1, List.getLast?_eq_getElem?, List.getElem?_eq_getElem h1]
          rfl
        rw [e]
        exact hj
      · have e : pl a b l 0 = [] := List.eq_nil_of_length_eq_zero (by omega)
        simp only [if_neg c3]
        rw [e] at hj ⊢
        exact hj
  · simp only [decide_eq_false c1, Bool.false_eq_true, if_false]
    apply ev_succ
    simp only [batonlaw39_BagFinds.j0, if_true]
    exact ev_some _

end Go.Proofs.Ythcpfkkddfgamaa.Pure
