/- Plain lemmas on the functions of this family (InboxTakes): what each loop comes to. No condition. -/
import Derived.Test.YtdbfclfglpbpmaaBase
import Derived.Test.YtdbfclfglpbpmaaPF32Tx
namespace Go.Proofs.Ytdbfclfglpbpmaa.LF32T
open Go.RowKit Go.Proofs.Ytdbfclfglpbpmaa.Base Go.Proofs.YtdbfclfglpbpmaaW.PrintWords Go.Proofs.YtdbfclfglpbpmaaW.PrintMore Go.Proofs.Ytdbfclfglpbpmaa.PF32T
set_option linter.unusedVariables false
set_option linter.unusedSimpArgs false

/-! ### batonref01 -/
theorem Same_l0 (a b : List Int) (h : a.length = b.length) (hl : a.length ≤ 9000000000000000000) : ∀ (d i : Nat), a.length - i = d → i ≤ a.length → Ev (fun k => batonref01_Same.l0 k a b (i : Int)) (decide (a.drop i = b.drop i)) := by
  intro d
  induction d with
  | zero =>
    intro i hd hi
    obtain rfl : i = a.length := by omega
    apply ev_succ
    simp only [batonref01_Same.l0, if_neg (show ¬ ((a.length : Int) < (a.length : Int)) by omega)]
    exact ev_eq (ev_some _) (by simp [h])
  | succ d ih =>
    intro i hd hi
    have hlt : i < a.length := by omega
    have hltb : i < b.length := by omega
    have hw : wrap64 ((i : Int) + 1) = ((i + 1 : Nat) : Int) := by rw [w64 (by omega) (by omega)]; omega
    apply ev_succ
    simp only [batonref01_Same.l0, if_pos (show (i : Int) < (a.length : Int) by omega), if_pos (show (0 : Int) ≤ (i : Int) by omega), if_pos (show (i : Int) < (b.length : Int) by omega), rd_lt hlt, rd_lt hltb, hw]
    have key : (a.drop i = b.drop i) ↔ (a[i] = b[i] ∧ a.drop (i + 1) = b.drop (i + 1)) := by
      rw [List.drop_eq_getElem_cons hlt, List.drop_eq_getElem_cons hltb]
      exact List.cons_eq_cons
    by_cases e : a[i] = b[i]
    · simp only [if_pos e]
      refine ev_eq (ih (i + 1) (by omega) (by omega)) ?_
      simp only [key, e, true_and]
    · simp only [if_neg e]
      refine ev_eq (ev_some _) ?_
      simp only [key, e, false_and, decide_false]
theorem Same_ev (a b : List Int) (hl : a.length ≤ 9000000000000000000) : Ev (fun k => batonref01_Same.f k a b) (decide (a = b)) := by
  unfold batonref01_Same.f
  by_cases h : a.length = b.length
  · simp only [if_pos (show (a.length : Int) = (b.length : Int) by omega)]
    exact ev_eq (Same_l0 a b h hl a.length 0 (by omega) (by omega)) (by simp)
  · simp only [if_neg (show ¬ ((a.length : Int) = (b.length : Int)) by omega)]
    exact ev_eq (ev_some _) (by simp; intro e; exact h (by rw [e]))

/-! ### boxes: rows of numbered keystrokes -/
def SA (l : List S142) : Prop := l.Pairwise (fun a b => a.f0 < b.f0)
def lookH : List S142 → Int → Option Int
  | [], _ => none
  | x :: t, n => if x.f0 = n then some x.f1 else lookH t n
theorem rd142 (l : List S142) (i : Nat) (h : i < l.length) : rd_T142 l (i : Int) = l[i] := by
  unfold rd_T142
  simp [List.getD_eq_getElem?_getD, h]
theorem look_no : ∀ (l : List S142) (n : Int), (∀ x ∈ l, x.f0 ≠ n) → lookH l n = none
  | [], _, _ => rfl
  | x :: t, n, h => by
    unfold lookH
    rw [if_neg (h x (by simp))]
    exact look_no t n (fun y hy => h y (by simp [hy]))
theorem look_app : ∀ (A B : List S142) (n : Int), (∀ x ∈ A, x.f0 ≠ n) → lookH (A ++ B) n = lookH B n
  | [], _, _, _ => rfl
  | x :: t, B, n, h => by
    show (if x.f0 = n then some x.f1 else lookH (t ++ B) n) = _
    rw [if_neg (h x (by simp))]
    exact look_app t B n (fun y hy => h y (by simp [hy]))
theorem look_pre : ∀ (A B C : List S142) (n : Int), (∀ x ∈ B, x.f0 ≠ n) → lookH (A ++ (B ++ C)) n = lookH (A ++ C) n
  | [], B, C, n, h => look_app B C n h
  | x :: t, B, C, n, h => by
    show (if x.f0 = n then some x.f1 else lookH (t ++ (B ++ C)) n) = (if x.f0 = n then some x.f1 else lookH (t ++ C) n)
    rw [look_pre t B C n h]
theorem sa_split (id : Int) : ∀ (l : List S142), SA l → ∃ A B, l = A ++ B ∧ (∀ x ∈ A, x.f0 < id) ∧ ((∀ x ∈ B, id < x.f0) ∨ ∃ y C, B = y :: C ∧ y.f0 = id ∧ ∀ x ∈ C, id < x.f0)
  | [], _ => ⟨[], [], rfl, by simp, .inl (by simp)⟩
  | x :: t, h => by
    obtain ⟨hgt, h3⟩ := List.pairwise_cons.1 h
    by_cases c1 : x.f0 < id
    · obtain ⟨A, B, rfl, hA, hB⟩ := sa_split id t h3
      exact ⟨x :: A, B, rfl, List.forall_mem_cons.2 ⟨c1, hA⟩, hB⟩
    · by_cases c2 : x.f0 = id
      · exact ⟨[], x :: t, rfl, by simp, .inr ⟨x, t, rfl, c2, fun z hz => by have := hgt z hz; omega⟩⟩
      · exact ⟨[], x :: t, rfl, by simp, .inl (List.forall_mem_cons.2 ⟨by omega, fun z hz => by have := hgt z hz; omega⟩)⟩
theorem bsI_eq (id : Int) (l : List S142) (m : Nat) (hA : ∀ k (h : k < l.length), k < m → l[k].f0 < id) (hB : ∀ k (h : k < l.length), m ≤ k → id ≤ l[k].f0) : ∀ (d : Nat) (i j : Int), 0 ≤ i → i ≤ (m : Int) → (m : Int) ≤ j → j ≤ (l.length : Int) → (j - i).toNat ≤ d → bsI id l d i j = (m : Int)
  | 0, i, j, h0, h1, h2, h3, h4 => by
    show i = (m : Int)
    omega
  | d + 1, i, j, h0, h1, h2, h3, h4 => by
    unfold bsI
    by_cases c : i < j
    · rw [if_pos c]
      obtain ⟨n, hn⟩ := Int.eq_ofNat_of_zero_le (show 0 ≤ (i + j) / 2 by omega)
      have hnl : n < l.length := by omega
      rw [hn, rd142 l n hnl]
      by_cases c2 : l[n].f0 < id
      · rw [if_pos c2]
        have hm : n < m := by
          rcases Nat.lt_or_ge n m with h | h
          · exact h
          · have := hB n hnl h; omega
        exact bsI_eq id l m hA hB d _ _ (by omega) (by omega) h2 h3 (by omega)
      · rw [if_neg c2]
        have hm : m ≤ n := by
          rcases Nat.lt_or_ge n m with h | h
          · exact absurd (hA n hnl h) c2
          · exact h
        exact bsI_eq id l m hA hB d _ _ h0 h1 (by omega) (by omega) (by omega)
    · rw [if_neg c]
      omega
theorem rd_mid (A C : List S142) (y : S142) : rd_T142 (A ++ y :: C) (A.length : Int) = y := by
  rw [rd142 _ _ (by simp)]
  simp
theorem bsI_app (id : Int) (A B : List S142) (hA : ∀ x ∈ A, x.f0 < id) (hB : ∀ x ∈ B, id ≤ x.f0) : bsI id (A ++ B) (A ++ B).length 0 ((A ++ B).length : Int) = (A.length : Int) := by
  refine bsI_eq id (A ++ B) A.length (fun k h hk => ?_) (fun k h hk => ?_) _ _ _ (by omega) (by omega) (by simp; omega) (by omega) (by omega)
  · rw [List.getElem_append_left hk]
    exact hA _ (List.getElem_mem hk)
  · rw [List.getElem_append_right hk]
    exact hB _ (List.getElem_mem _)
/-- One more, unless it was taken, or is held. -/
theorem hold_ok (l : List S142) (next n b : Int) (hs : SA l) (hl : l.length < 900000000) : ∃ l', inbox_hold.f l next n b = some l' ∧ SA l' ∧ l'.length ≤ l.length + 1 ∧ (∀ m, lookH l' m = if m = n ∧ lookH l n = none ∧ next ≤ n then some b else lookH l m) ∧ (∀ x ∈ l', x ∈ l ∨ (x = ⟨n, b⟩ ∧ next ≤ n)) := by
  obtain ⟨A, B, rfl, hA, hB⟩ := sa_split n l hs
  unfold inbox_hold.f inbox_Held_int.f
  rw [if_pos (by omega)]
  rcases hB with hB | ⟨y, C, rfl, hy, hC⟩
  · have hb := bsI_app n A B hA (fun x hx => Int.le_of_lt (hB x hx))
    have hno : lookH (A ++ B) n = none := by
      apply look_no
      intro x hx
      rcases List.mem_append.1 hx with h | h
      · have := hA x h; omega
      · have := hB x h; omega
    have hf : (decide ((A.length : Int) < ((A ++ B).length : Int)) && (rd_T142 (A ++ B) (A.length : Int)).f0 == n) = false := by
      cases B with
      | nil => simp
      | cons y C => rw [rd_mid, beq_eq_false_iff_ne.2 (by have := hB y (by simp); omega), Bool.and_false]
    simp only [hb, hf, Option.bind_some, Bool.false_eq_true, if_false]
    by_cases c : n < next
    · rw [if_pos c]
      refine ⟨_, rfl, hs, by omega, fun m => ?_, fun x hx => .inl hx⟩
      rw [if_neg (by omega)]
    · rw [if_neg c]
      unfold inbox_Held_101.f
      rw [if_pos ⟨by omega, by simp; omega, rfl, by omega⟩]
      simp only [Option.bind_some, Int.toNat_natCast, List.take_left, List.drop_left, List.append_assoc, List.singleton_append]
      have hsA := (List.pairwise_append.1 hs).1
      have hsB := (List.pairwise_append.1 hs).2.1
      refine ⟨_, rfl, ?_, by simp; omega, fun m => ?_, fun x hx => ?_⟩
      · refine List.pairwise_append.2 ⟨hsA, List.pairwise_cons.2 ⟨hB, hsB⟩, fun a ha b' hb' => ?_⟩
        rcases List.mem_cons.1 hb' with rfl | h
        · exact hA a ha
        · have := hA a ha; have := hB b' h; omega
      · by_cases e : m = n
        · subst e
          rw [if_pos ⟨rfl, hno, by omega⟩, look_app A _ m (fun x hx => by have := hA x hx; omega)]
          show (if m = m then some b else _) = _
          rw [if_pos rfl]
        · rw [if_neg (fun h => e h.1)]
          exact look_pre A [⟨n, b⟩] B m (fun x hx => by rw [List.mem_singleton.1 hx]; exact fun h => e h.symm)
      · rcases List.mem_append.1 hx with h | h
        · exact .inl (List.mem_append_left _ h)
        · rcases List.mem_cons.1 h with rfl | h
          · exact .inr ⟨rfl, by omega⟩
          · exact .inl (List.mem_append_right _ h)
  · have hb := bsI_app n A (y :: C) hA (fun x hx => by rcases List.mem_cons.1 hx with rfl | h; omega; have := hC x h; omega)
    have hf : (decide ((A.length : Int) < ((A ++ y :: C).length : Int)) && (rd_T142 (A ++ y :: C) (A.length : Int)).f0 == n) = true := by
      rw [rd_mid, hy, decide_eq_true (by simp; omega)]
      simp
    simp only [hb, hf, Option.bind_some, if_true]
    refine ⟨_, rfl, hs, by omega, fun m => ?_, fun x hx => .inl hx⟩
    have : lookH (A ++ y :: C) n = some y.f1 := by
      rw [look_app A _ n (fun x hx => by have := hA x hx; omega)]
      show (if y.f0 = n then some y.f1 else _) = _
      rw [if_pos hy]
    rw [if_neg (fun h => by rw [this] at h; simp at h)]
/-- What is held behind the first i of b. -/
def Mf (held : List S142) (next first : Int) (b : List Int) (i : Nat) (m : Int) : Option Int :=
  match lookH held m with
  | some c => some c
  | none => if first ≤ m ∧ m < first + i ∧ next ≤ m then some (rd b (m - first)) else none
def PF (held : List S142) (next first : Int) (b : List Int) (i : Nat) (H : List S142) : Prop :=
  SA H ∧ H.length ≤ held.length + i ∧ (∀ m, lookH H m = Mf held next first b i m) ∧ (∀ x ∈ H, x ∈ held ∨ (next ≤ x.f0 ∧ first ≤ x.f0 ∧ x.f0 < first + i ∧ x.f1 = rd b (x.f0 - first)))
theorem PF_step (held : List S142) (next first : Int) (b : List Int) (i : Nat) (H : List S142) (hp : PF held next first b i H) (hl : H.length < 900000000) : ∃ H', inbox_hold.f H next (first + i) (rd b i) = some H' ∧ PF held next first b (i + 1) H' := by
  obtain ⟨h1, h2, h3, h4⟩ := hp
  obtain ⟨H', e, g1, g2, g3, g4⟩ := hold_ok H next (first + i) (rd b i) h1 hl
  refine ⟨H', e, g1, by omega, fun m => ?_, fun x hx => ?_⟩
  · rw [g3 m, h3 m, h3 (first + i)]
    unfold Mf
    cases hm : lookH held m with
    | some c =>
      by_cases c1 : m = first + i
      · subst c1
        rw [hm]
        simp
      · rw [if_neg (fun h => c1 h.1)]
    | none =>
      by_cases c1 : m = first + i
      · subst c1
        rw [hm]
        dsimp only
        rw [if_neg (show ¬ (first ≤ first + (i : Int) ∧ first + (i : Int) < first + (i : Int) ∧ next ≤ first + (i : Int)) by omega)]
        by_cases c2 : next ≤ first + i
        · rw [if_pos ⟨rfl, rfl, c2⟩, if_pos ⟨by omega, by omega, c2⟩, show first + (i : Int) - first = (i : Int) by omega]
        · rw [if_neg (fun h => c2 h.2.2), if_neg (fun h => c2 h.2.2)]
      · rw [if_neg (fun h => c1 h.1)]
        dsimp only
        by_cases c2 : first ≤ m ∧ m < first + i ∧ next ≤ m
        · rw [if_pos c2, if_pos ⟨c2.1, by omega, c2.2.2⟩]
        · rw [if_neg c2, if_neg (fun h => c2 ⟨h.1, by omega, h.2.2⟩)]
  · rcases g4 x hx with h | ⟨rfl, h⟩
    · rcases h4 x h with h | ⟨q1, q2, q3, q4⟩
      · exact .inl h
      · exact .inr ⟨q1, q2, by omega, q4⟩
    · refine .inr ⟨h, show first ≤ first + (i : Int) by omega, show first + (i : Int) < first + ((i + 1 : Nat) : Int) by omega, ?_⟩
      show rd b i = rd b (first + i - first)
      rw [show first + (i : Int) - first = (i : Int) by omega]
theorem Take_l0 (held : List S142) (next first room : Int) (b : List Int) (hh : held.length + b.length < 800000000) (hf : 0 ≤ first) (hf2 : first + b.length ≤ 281474976710656) : ∀ (d i : Nat) (H : List S142), b.length - i = d → i ≤ b.length → PF held next first b i H →
    ∃ H', PF held next first b b.length H' ∧ ∀ r, Ev (fun k => inbox_Take.l1 k room [] next held next H') r → Ev (fun k => inbox_Take.l0 k first room b (b.length : Int) (i : Int) next held next H) r := by
  intro d
  induction d with
  | zero =>
    intro i H hd hi hp
    obtain rfl : i = b.length := by omega
    refine ⟨H, hp, fun r hr => ?_⟩
    apply ev_succ
    simp only [inbox_Take.l0, if_neg (show ¬ ((b.length : Int) < (b.length : Int)) by omega)]
    exact hr
  | succ d ih =>
    intro i H hd hi hp
    have hlt : i < b.length := by omega
    obtain ⟨H1, e, hp1⟩ := PF_step held next first b i H hp (by have := hp.2.1; omega)
    obtain ⟨H', hp', hr'⟩ := ih (i + 1) H1 (by omega) (by omega) hp1
    refine ⟨H', hp', fun r hr => ?_⟩
    have hw : wrap64 ((i : Int) + 1) = ((i + 1 : Nat) : Int) := by rw [w64 (by omega) (by omega)]; omega
    have hw2 : wrap64 (first + (i : Int)) = first + i := w64 (by omega) (by omega)
    apply ev_succ
    simp only [inbox_Take.l0, if_pos (show (i : Int) < (b.length : Int) by omega), if_pos (show (0 : Int) ≤ (i : Int) by omega), hw, hw2, e, Option.bind_some]
    exact hr' r hr
/-- Those that stand in line from n on, and the rest. -/
def run : Int → List S142 → List Int × List S142
  | _, [] => ([], [])
  | n, x :: t => if x.f0 = n then (x.f1 :: (run (n + 1) t).1, (run (n + 1) t).2) else ([], x :: t)
theorem run_len : ∀ (L : List S142) (n : Int), (run n L).1.length ≤ L.length
  | [], n => by simp [run]
  | x :: t, n => by
    unfold run
    split
    · have := run_len t (n + 1)
      simp
      omega
    · simp
theorem Take_l1 (room x0 : Int) (xh : List S142) : ∀ (L : List S142) (n : Int) (out : List Int), 0 ≤ n → n + L.length ≤ 1000000000000000 → out.length + L.length ≤ 900000000 →
    Ev (fun k => inbox_Take.l1 k room out x0 xh n L) (if ((out ++ (run n L).1).length : Int) > room then (x0, xh, [], 2) else (n + (run n L).1.length, (run n L).2, out ++ (run n L).1, 0))
  | [], n, out, h0, h1, h2 => by
    apply ev_succ
    simp only [inbox_Take.l1, List.length_nil, if_neg (show ¬ (((0 : Nat) : Int) > 0) by decide), run, List.append_nil]
    by_cases c : (out.length : Int) > room
    · simp only [if_pos c]
      exact ev_some _
    · simp only [if_neg c]
      exact ev_eq (ev_some _) (by simp)
  | x :: t, n, out, h0, h1, h2 => by
    simp only [List.length_cons] at h1 h2
    have hr : rd_T142 (x :: t) 0 = x := rfl
    apply ev_succ
    simp only [inbox_Take.l1, if_pos (show (((x :: t).length : Nat) : Int) > 0 by simp only [List.length_cons]; omega), if_pos (show (0 : Int) < (((x :: t).length : Nat) : Int) by simp only [List.length_cons]; omega), if_pos (show (1 : Int) ≤ (((x :: t).length : Nat) : Int) by simp only [List.length_cons]; omega), hr]
    by_cases c : x.f0 = n
    · have ih := Take_l1 room x0 xh t (n + 1) (out ++ [x.f1]) (by omega) (by omega) (by simp; omega)
      simp only [if_pos c, if_pos (show out.length < 140737488355328 by omega)]
      rw [show wrap64 (n + 1) = n + 1 from w64 (by omega) (by omega), show (x :: t).drop (1 : Int).toNat = t from rfl]
      refine ev_eq ih ?_
      have e : run n (x :: t) = (x.f1 :: (run (n + 1) t).1, (run (n + 1) t).2) := by
        show (if x.f0 = n then _ else _) = _
        rw [if_pos c]
      rw [e]
      simp only [List.append_assoc, List.singleton_append, List.length_cons]
      split
      · rfl
      · congr 1
        omega
    · simp only [if_neg c]
      have e : run n (x :: t) = ([], x :: t) := by
        show (if x.f0 = n then _ else _) = _
        rw [if_neg c]
      rw [e, List.append_nil]
      by_cases c2 : (out.length : Int) > room
      · simp only [if_pos c2]
        exact ev_some _
      · simp only [if_neg c2]
        exact ev_eq (ev_some _) (by simp)
theorem run_spec : ∀ (L : List S142) (n : Int), SA L → (∀ x ∈ L, n ≤ x.f0) → (∀ j (h : j < (run n L).1.length), lookH L (n + j) = some (run n L).1[j]) ∧ lookH L (n + (run n L).1.length) = none ∧ SA (run n L).2 ∧ (∀ x ∈ (run n L).2, n + (run n L).1.length < x.f0 ∧ x ∈ L) ∧ (∀ m, n + (run n L).1.length ≤ m → lookH (run n L).2 m = lookH L m)
  | [], n, _, _ => ⟨fun j h => by simp [run] at h, rfl, List.Pairwise.nil, fun x hx => by simp [run] at hx, fun m _ => rfl⟩
  | x :: t, n, hs, hn => by
    obtain ⟨hgt, hst⟩ := List.pairwise_cons.1 hs
    by_cases c : x.f0 = n
    · obtain ⟨i1, i2, i3, i4, i5⟩ := run_spec t (n + 1) hst (fun y hy => by have := hgt y hy; omega)
      have e1 : (run n (x :: t)).1 = x.f1 :: (run (n + 1) t).1 := by show (if x.f0 = n then _ else _ : List Int × List S142).1 = _; rw [if_pos c]
      have e2 : (run n (x :: t)).2 = (run (n + 1) t).2 := by show (if x.f0 = n then _ else _ : List Int × List S142).2 = _; rw [if_pos c]
      have hl : ∀ m, m ≠ n → lookH (x :: t) m = lookH t m := fun m hm => by
        show (if x.f0 = m then _ else _) = _
        rw [if_neg (by omega)]
      rw [e1, e2]
      simp only [List.length_cons]
      refine ⟨fun j hj => ?_, ?_, i3, fun y hy => ?_, fun m hm => ?_⟩
      · cases j with
        | zero =>
          show (if x.f0 = n + ((0 : Nat) : Int) then some x.f1 else _) = _
          rw [if_pos (by omega)]
          rfl
        | succ j =>
          rw [hl _ (by omega), show n + ((j + 1 : Nat) : Int) = n + 1 + (j : Int) by omega]
          exact i1 j (by omega)
      · rw [hl _ (by omega), show n + (((run (n + 1) t).1.length + 1 : Nat) : Int) = n + 1 + ((run (n + 1) t).1.length : Int) by omega]
        exact i2
      · have := i4 y hy
        exact ⟨by omega, List.mem_cons_of_mem _ this.2⟩
      · rw [i5 m (by omega), hl m (by omega)]
    · have e1 : (run n (x :: t)).1 = [] := by show (if x.f0 = n then _ else _ : List Int × List S142).1 = _; rw [if_neg c]
      have e2 : (run n (x :: t)).2 = x :: t := by show (if x.f0 = n then _ else _ : List Int × List S142).2 = _; rw [if_neg c]
      have hxn : n < x.f0 := by have := hn x (by simp); omega
      rw [e1, e2]
      refine ⟨fun j hj => by simp at hj, ?_, hs, fun y hy => ?_, fun m _ => rfl⟩
      · apply look_no
        intro y hy
        rcases List.mem_cons.1 hy with rfl | h
        · simp; omega
        · have := hgt y h; simp; omega
      · refine ⟨?_, hy⟩
        rcases List.mem_cons.1 hy with rfl | h
        · simp; omega
        · have := hgt y h; simp; omega
/-- What is taken of any that comes. -/
theorem Take_ok (next : Int) (held : List S142) (first room : Int) (b : List Int) (hn0 : 0 ≤ next) (hn1 : next ≤ 281474976710656) (hs : SA held) (hk : ∀ x ∈ held, next < x.f0) (hh : held.length ≤ 100000) (hb : b.length ≤ 100000) (hf : 0 ≤ first) (hf2 : first + b.length ≤ 281474976710656) (hgap : 0 < b.length → first + b.length - next ≤ 64) :
    ∃ L, PF held next first b b.length L ∧ Ev (fun k => inbox_Take.f k next held first b room) (if ((run next L).1.length : Int) > room then (next, held, [], 2) else (next + (run next L).1.length, (run next L).2, (run next L).1, 0)) := by
  have hp0 : PF held next first b 0 held := by
    refine ⟨hs, by omega, fun m => ?_, fun x hx => .inl hx⟩
    unfold Mf
    cases lookH held m with
    | some c => rfl
    | none => rw [if_neg (by omega)]
  obtain ⟨L, hp, hr⟩ := Take_l0 held next first room b (by omega) hf hf2 b.length 0 held (by omega) (by omega) hp0
  refine ⟨L, hp, ?_⟩
  have hl := Take_l1 room next held L next [] hn0 (by have := hp.2.1; omega) (by have := hp.2.1; simp; omega)
  rw [List.nil_append] at hl
  have h1 := hr _ hl
  have hj1 : Ev (fun k => inbox_Take.j1 k first b room next held) (if ((run next L).1.length : Int) > room then (next, held, [], 2) else (next + (run next L).1.length, (run next L).2, (run next L).1, 0)) := by
    apply ev_succ
    simp only [inbox_Take.j1, inbox_Held_73.f, if_pos (show held.length < 8796093022208 by omega), Option.bind_some]
    exact h1
  unfold inbox_Take.f
  simp only [if_neg (show ¬ first < 0 by omega), if_neg (show ¬ (b.length : Int) > 281474976710656 by omega)]
  rw [show wrap64 (281474976710656 - (b.length : Int)) = 281474976710656 - (b.length : Int) from w64 (by omega) (by omega), decide_eq_false (show ¬ first > 281474976710656 - (b.length : Int) by omega)]
  apply ev_succ
  by_cases c : (b.length : Int) > 0
  · have := hgap (by omega)
    simp only [inbox_Take.j0, Bool.false_eq_true, if_false, if_pos c]
    rw [show wrap64 (first + (b.length : Int)) = first + b.length from w64 (by omega) (by omega), show wrap64 (first + (b.length : Int) - next) = first + b.length - next from w64 (by omega) (by omega)]
    simp only [if_neg (show ¬ first + (b.length : Int) - next > 64 by omega)]
    exact hj1
  · simp only [inbox_Take.j0, Bool.false_eq_true, if_false, if_neg c]
    exact hj1
/-- None is taken of what comes too early. -/
theorem Take_early (next : Int) (held : List S142) (first room : Int) (b : List Int) (hn0 : 0 ≤ next) (hn1 : next ≤ 281474976710656) (hf : 0 ≤ first) (hb : b.length ≤ 1000000) (hf2 : first + b.length ≤ 281474976710656) (h0 : 0 < b.length) (hgap : first + b.length - next > 64) : Ev (fun k => inbox_Take.f k next held first b room) (next, held, [], 2) := by
  unfold inbox_Take.f
  simp only [if_neg (show ¬ first < 0 by omega), if_neg (show ¬ (b.length : Int) > 281474976710656 by omega)]
  rw [show wrap64 (281474976710656 - (b.length : Int)) = 281474976710656 - (b.length : Int) from w64 (by omega) (by omega), decide_eq_false (show ¬ first > 281474976710656 - (b.length : Int) by omega)]
  apply ev_succ
  simp only [inbox_Take.j0, Bool.false_eq_true, if_false, if_pos (show (b.length : Int) > 0 by omega)]
  rw [show wrap64 (first + (b.length : Int)) = first + b.length from w64 (by omega) (by omega), show wrap64 (first + (b.length : Int) - next) = first + b.length - next from w64 (by omega) (by omega)]
  simp only [if_pos hgap]
  exact ev_some _
theorem awake32 : Ev (fun k => batonlaw32_awake.f k) true := Ev.of (fun k => batonlaw32_awake.mono k) (k := 30) (by decide +kernel)

/-! ### the page's boxes -/
def cv (x : S142) : S144 := ⟨x.f0, x.f1⟩
def lookR : List S144 → Int → Option Int
  | [], _ => none
  | x :: t, n => if x.f0 = n then some x.f1 else lookR t n
theorem rd144 (l : List S144) (i : Nat) (h : i < l.length) : rd_T144 l (i : Int) = l[i] := by
  unfold rd_T144
  simp [List.getD_eq_getElem?_getD, h]
theorem lookR_map : ∀ (l : List S142) (n : Int), lookR (l.map cv) n = lookH l n
  | [], _ => rfl
  | x :: t, n => by
    show (if (cv x).f0 = n then some (cv x).f1 else lookR (t.map cv) n) = (if x.f0 = n then some x.f1 else lookH t n)
    rw [lookR_map t n]
    rfl
theorem lookR_snoc : ∀ (A : List S144) (x : S144) (n : Int), lookR (A ++ [x]) n = match lookR A n with | some c => some c | none => if x.f0 = n then some x.f1 else none
  | [], x, n => rfl
  | y :: t, x, n => by
    show (if y.f0 = n then some y.f1 else lookR (t ++ [x]) n) = match (if y.f0 = n then some y.f1 else lookR t n) with | some c => some c | none => if x.f0 = n then some x.f1 else none
    split
    · rfl
    · exact lookR_snoc t x n
def fnd (o : Option Int) : Int × Bool := match o with | some b => (b, true) | none => (0, false)
theorem find_l0 (L : List S144) (n : Int) (hl : L.length ≤ 1000000) : ∀ (d i : Nat), L.length - i = d → i ≤ L.length → Ev (fun k => batonref32_find.l0 k L n (i : Int)) (fnd (lookR (L.drop i) n)) := by
  intro d
  induction d with
  | zero =>
    intro i hd hi
    obtain rfl : i = L.length := by omega
    apply ev_succ
    simp only [batonref32_find.l0, if_neg (show ¬ ((L.length : Int) < (L.length : Int)) by omega)]
    exact ev_eq (ev_some _) (by rw [List.drop_length]; rfl)
  | succ d ih =>
    intro i hd hi
    have hlt : i < L.length := by omega
    have hw : wrap64 ((i : Int) + 1) = ((i + 1 : Nat) : Int) := by rw [w64 (by omega) (by omega)]; omega
    apply ev_succ
    simp only [batonref32_find.l0, if_pos (show (i : Int) < (L.length : Int) by omega), if_pos (show (0 : Int) ≤ (i : Int) by omega), rd144 L i hlt, hw]
    rw [List.drop_eq_getElem_cons hlt]
    by_cases c : L[i].f0 = n
    · simp only [if_pos c]
      refine ev_eq (ev_some _) ?_
      show _ = fnd (if L[i].f0 = n then some L[i].f1 else _)
      rw [if_pos c]
      rfl
    · simp only [if_neg c]
      refine ev_eq (ih (i + 1) (by omega) (by omega)) ?_
      show _ = fnd (if L[i].f0 = n then some L[i].f1 else _)
      rw [if_neg c]
theorem find_ev (L : List S144) (n : Int) (hl : L.length ≤ 1000000) : Ev (fun k => batonref32_find.f k L n) (fnd (lookR L n)) := by
  unfold batonref32_find.f
  exact find_l0 L n hl L.length 0 (by omega) (by omega)
theorem RTake_l0 (held : List S142) (next first room : Int) (b : List Int) (hh : held.length + b.length < 800000) (hf : 0 ≤ first) (hf2 : first + b.length ≤ 281474976710656) (x0 : Int) (xh : List S144) (hx0 : x0 = next) : ∀ (d i : Nat) (A : List S144), b.length - i = d → i ≤ b.length → A.length ≤ held.length + i → (∀ m, lookR A m = Mf held next first b i m) →
    ∃ A', A'.length ≤ held.length + b.length ∧ (∀ m, lookR A' m = Mf held next first b b.length m) ∧ ∀ r, Ev (fun k => batonref32_Take.l1 k room A' [] x0 xh x0) r → Ev (fun k => batonref32_Take.l0 k first b room A (i : Int) x0 xh) r := by
  subst hx0
  intro d
  induction d with
  | zero =>
    intro i A hd hi hA hm
    obtain rfl : i = b.length := by omega
    refine ⟨A, hA, hm, fun r hr => ?_⟩
    apply ev_succ
    simp only [batonref32_Take.l0, if_neg (show ¬ ((b.length : Int) < (b.length : Int)) by omega)]
    exact hr
  | succ d ih =>
    intro i A hd hi hA hm
    have hlt : i < b.length := by omega
    have hw : wrap64 ((i : Int) + 1) = ((i + 1 : Nat) : Int) := by rw [w64 (by omega) (by omega)]; omega
    have hw2 : wrap64 (first + (i : Int)) = first + i := w64 (by omega) (by omega)
    have hfe := find_ev A (first + i) (by omega)
    have same : (∀ m, Mf held x0 first b (i + 1) m = Mf held x0 first b i m) → ∃ A', A'.length ≤ held.length + b.length ∧ (∀ m, lookR A' m = Mf held x0 first b b.length m) ∧ ∀ r, Ev (fun k => batonref32_Take.l1 k room A' [] x0 xh x0) r → Ev (fun k => batonref32_Take.l0 k first b room A ((i + 1 : Nat) : Int) x0 xh) r := fun he => ih (i + 1) A (by omega) (by omega) (by omega) (fun m => (hm m).trans (he m).symm)
    cases hl : lookR A (first + i) with
    | some c =>
      have he : ∀ m, Mf held x0 first b (i + 1) m = Mf held x0 first b i m := fun m => by
        have h1 := hm (first + i)
        rw [hl] at h1
        unfold Mf at h1 ⊢
        cases hq : lookH held m with
        | some c => rfl
        | none =>
          dsimp only
          by_cases e : m = first + i
          · subst e
            rw [hq] at h1
            dsimp only at h1
            rw [if_neg (by omega)] at h1
            cases h1
          · by_cases c2 : first ≤ m ∧ m < first + i ∧ x0 ≤ m
            · rw [if_pos c2, if_pos ⟨c2.1, by omega, c2.2.2⟩]
            · rw [if_neg c2, if_neg (fun h => c2 ⟨h.1, by omega, h.2.2⟩)]
      obtain ⟨A', g1, g2, g3⟩ := same he
      refine ⟨A', g1, g2, fun r hr => ?_⟩
      apply ev_succ
      simp only [batonref32_Take.l0, if_pos (show (i : Int) < (b.length : Int) by omega), hw2]
      rw [hl] at hfe
      refine ev_bind hfe ?_
      simp only [fnd, if_true, hw]
      exact g3 r hr
    | none =>
      by_cases c1 : first + (i : Int) ≥ x0
      · have hm1 : ∀ m, lookR (A ++ [(⟨first + i, rd b i⟩ : S144)]) m = Mf held x0 first b (i + 1) m := fun m => by
          rw [lookR_snoc, hm m]
          have h1 := hm (first + i)
          rw [hl] at h1
          unfold Mf at h1 ⊢
          cases hq : lookH held m with
          | some c => rfl
          | none =>
            dsimp only
            by_cases e : m = first + i
            · subst e
              rw [if_neg (show ¬ (first ≤ first + (i : Int) ∧ first + (i : Int) < first + (i : Int) ∧ x0 ≤ first + (i : Int)) by omega)]
              dsimp only
              rw [if_pos rfl, if_pos ⟨by omega, by omega, by omega⟩, show first + (i : Int) - first = (i : Int) by omega]
            · by_cases c2 : first ≤ m ∧ m < first + i ∧ x0 ≤ m
              · rw [if_pos c2]
                dsimp only
                rw [if_pos ⟨c2.1, by omega, c2.2.2⟩]
              · rw [if_neg c2]
                dsimp only
                rw [if_neg (fun h => e h.symm), if_neg (fun h => c2 ⟨h.1, by omega, h.2.2⟩)]
        obtain ⟨A', g1, g2, g3⟩ := ih (i + 1) (A ++ [(⟨first + i, rd b i⟩ : S144)]) (by omega) (by omega) (by simp; omega) hm1
        refine ⟨A', g1, g2, fun r hr => ?_⟩
        apply ev_succ
        simp only [batonref32_Take.l0, if_pos (show (i : Int) < (b.length : Int) by omega), hw2]
        rw [hl] at hfe
        refine ev_bind hfe ?_
        simp only [fnd, Bool.false_eq_true, if_false, hw, if_pos c1, if_pos (show (0 : Int) ≤ (i : Int) by omega), if_pos (show A.length < 8796093022208 by omega)]
        exact g3 r hr
      · have he : ∀ m, Mf held x0 first b (i + 1) m = Mf held x0 first b i m := fun m => by
          unfold Mf
          cases hq : lookH held m with
          | some c => rfl
          | none =>
            dsimp only
            by_cases c2 : first ≤ m ∧ m < first + i ∧ x0 ≤ m
            · rw [if_pos c2, if_pos ⟨c2.1, by omega, c2.2.2⟩]
            · rw [if_neg c2, if_neg (fun h => c2 ⟨h.1, by omega, h.2.2⟩)]
        obtain ⟨A', g1, g2, g3⟩ := same he
        refine ⟨A', g1, g2, fun r hr => ?_⟩
        apply ev_succ
        simp only [batonref32_Take.l0, if_pos (show (i : Int) < (b.length : Int) by omega), hw2]
        rw [hl] at hfe
        refine ev_bind hfe ?_
        simp only [fnd, Bool.false_eq_true, if_false, hw, if_neg c1]
        exact g3 r hr
theorem RTake_l2 (A : List S144) (out : List Int) (n : Int) (hA : A.length ≤ 1000000) (hn0 : 0 ≤ n) (hn1 : n ≤ 1000000000000000) : ∀ (d : Nat) (R : List S142) (w : List S144), d ≤ 64 → SA R → (∀ x ∈ R, n + 64 - d ≤ x.f0 ∧ x.f0 < n + 64) → (∀ m, n + 64 - d ≤ m → lookR A m = lookH R m) → w.length + d ≤ 1000 →
    Ev (fun k => batonref32_Take.l2 k A out (n + 64 - d) n w) (n, w ++ R.map cv, out, 0) := by
  have hw64 : wrap64 (n + 64) = n + 64 := w64 (by omega) (by omega)
  intro d
  induction d with
  | zero =>
    intro R w hd hs hk hm hw
    have hR : R = [] := by
      cases R with
      | nil => rfl
      | cons x t => have := hk x (by simp); omega
    subst hR
    apply ev_succ
    simp only [batonref32_Take.l2, hw64, if_neg (show ¬ (n + 64 - ((0 : Nat) : Int) < n + 64) by omega)]
    exact ev_eq (ev_some _) (by simp)
  | succ d ih =>
    intro R w hd hs hk hm hw
    have e1 : wrap64 (n + 64 - ((d + 1 : Nat) : Int) + 1) = n + 64 - (d : Int) := by rw [w64 (by omega) (by omega)]; omega
    have hfe := find_ev A (n + 64 - ((d + 1 : Nat) : Int)) hA
    rw [hm _ (Int.le_refl _)] at hfe
    apply ev_succ
    simp only [batonref32_Take.l2, hw64, if_pos (show n + 64 - ((d + 1 : Nat) : Int) < n + 64 by omega)]
    have hno : ∀ R : List S142, (∀ x ∈ R, n + 64 - ((d + 1 : Nat) : Int) < x.f0) → lookH R (n + 64 - ((d + 1 : Nat) : Int)) = none := fun R h => look_no R _ (fun x hx => by have := h x hx; omega)
    cases R with
    | nil =>
      refine ev_bind hfe ?_
      simp only [lookH, fnd, Bool.false_eq_true, if_false, e1]
      exact ih [] w (by omega) hs (fun x hx => by simp at hx) (fun m h => hm m (by omega)) (by omega)
    | cons x t =>
      obtain ⟨hgt, hst⟩ := List.pairwise_cons.1 hs
      have hx := hk x (by simp)
      by_cases c : x.f0 = n + 64 - ((d + 1 : Nat) : Int)
      · have hl : lookH (x :: t) (n + 64 - ((d + 1 : Nat) : Int)) = some x.f1 := by
          show (if x.f0 = _ then _ else _) = _
          rw [if_pos c]
        rw [hl] at hfe
        refine ev_bind hfe ?_
        simp only [fnd, if_true, if_pos (show w.length < 8796093022208 by omega), e1]
        refine ev_eq (ih t (w ++ [(⟨n + 64 - ((d + 1 : Nat) : Int), x.f1⟩ : S144)]) (by omega) hst (fun y hy => ⟨by have := hgt y hy; omega, (hk y (by simp [hy])).2⟩) (fun m h => ?_) (by simp; omega)) ?_
        · rw [hm m (by omega)]
          show (if x.f0 = m then _ else lookH t m) = _
          rw [if_neg (by omega)]
        · rw [List.map_cons, List.append_assoc, List.singleton_append, ← c]
          rfl
      · rw [hno (x :: t) (fun y hy => by
          rcases List.mem_cons.1 hy with rfl | h
          · omega
          · have := hgt y h; omega)] at hfe
        refine ev_bind hfe ?_
        simp only [fnd, Bool.false_eq_true, if_false, e1]
        exact ih (x :: t) w (by omega) hs (fun y hy => ⟨by
          rcases List.mem_cons.1 hy with rfl | h
          · omega
          · have := hgt y h; omega, (hk y hy).2⟩) (fun m h => hm m (by omega)) (by omega)
theorem RTake_l1 (room x0 : Int) (xh : List S144) (A : List S144) (n : Int) (o : List Int) (hA : A.length ≤ 1000000) (hn0 : 0 ≤ n) (hn1 : n ≤ 900000000000000) (ho : o.length ≤ 1000000) (hm : ∀ j (h : j < o.length), lookR A (n + j) = some o[j]) (hend : lookR A (n + o.length) = none) (r : Int × List S144 × List Int × Int) (hr : ¬ (o.length : Int) > room → Ev (fun k => batonref32_Take.l2 k A o (n + o.length) (n + o.length) []) r) (hr2 : (o.length : Int) > room → r = (x0, xh, [], 2)) :
    ∀ (d i : Nat), o.length - i = d → i ≤ o.length → Ev (fun k => batonref32_Take.l1 k room A (o.take i) x0 xh (n + i)) r := by
  intro d
  induction d with
  | zero =>
    intro i hd hi
    obtain rfl : i = o.length := by omega
    have hfe := find_ev A (n + (o.length : Int)) hA
    rw [hend] at hfe
    apply ev_succ
    simp only [batonref32_Take.l1, List.take_length]
    refine ev_bind hfe ?_
    simp only [fnd, Bool.false_eq_true, if_false]
    by_cases c : (o.length : Int) > room
    · simp only [if_pos c]
      exact ev_eq (ev_some _) (hr2 c).symm
    · simp only [if_neg c]
      exact hr c
  | succ d ih =>
    intro i hd hi
    have hlt : i < o.length := by omega
    have hfe := find_ev A (n + (i : Int)) hA
    rw [hm i hlt] at hfe
    have h := ih (i + 1) (by omega) (by omega)
    rw [← List.take_append_getElem hlt] at h
    apply ev_succ
    simp only [batonref32_Take.l1]
    refine ev_bind hfe ?_
    simp only [fnd, if_true, if_pos (show (o.take i).length < 140737488355328 by rw [List.length_take]; omega)]
    rw [show wrap64 (n + (i : Int) + 1) = n + ((i + 1 : Nat) : Int) by rw [w64 (by omega) (by omega)]; omega]
    exact h
theorem Ref_l0 (a0 : Int) (l : List S142) (hl : l.length ≤ 1000000) : ∀ (d i : Nat), l.length - i = d → i ≤ l.length → Ev (fun k => batonlaw32_Ref.l0 k (i : Int) a0 l a0 ((l.take i).map cv)) (a0, l.map cv) := by
  intro d
  induction d with
  | zero =>
    intro i hd hi
    obtain rfl : i = l.length := by omega
    apply ev_succ
    simp only [batonlaw32_Ref.l0, if_neg (show ¬ ((l.length : Int) < (l.length : Int)) by omega)]
    exact ev_eq (ev_some _) (by rw [List.take_length])
  | succ d ih =>
    intro i hd hi
    have hlt : i < l.length := by omega
    have hw : wrap64 ((i : Int) + 1) = ((i + 1 : Nat) : Int) := by rw [w64 (by omega) (by omega)]; omega
    have h := ih (i + 1) (by omega) (by omega)
    rw [← List.take_append_getElem hlt, List.map_append] at h
    apply ev_succ
    simp only [batonlaw32_Ref.l0, if_pos (show (i : Int) < (l.length : Int) by omega), if_pos (show (0 : Int) ≤ (i : Int) by omega), if_pos (show ((l.take i).map cv).length < 8796093022208 by simp; omega), rd142 l i hlt, hw]
    exact h
theorem Ref_ev (a0 : Int) (l : List S142) (hl : l.length ≤ 1000000) : Ev (fun k => batonlaw32_Ref.f k a0 l) (a0, l.map cv) := by
  unfold batonlaw32_Ref.f
  exact Ref_l0 a0 l hl l.length 0 (by omega) (by omega)
/-- May a box be? -/
def okH (next : Int) : Int → List S142 → Prop
  | _, [] => True
  | last, x :: t => last < x.f0 ∧ x.f0 < next + 64 ∧ x.f0 < 281474976710656 ∧ okH next x.f0 t
noncomputable instance (next last : Int) (l : List S142) : Decidable (okH next last l) := Classical.propDecidable _
theorem okH_iff (next : Int) : ∀ (l : List S142) (last : Int), okH next last l ↔ SA l ∧ ∀ x ∈ l, last < x.f0 ∧ x.f0 < next + 64 ∧ x.f0 < 281474976710656
  | [], last => by simp [okH, SA]
  | x :: t, last => by
    show (last < x.f0 ∧ x.f0 < next + 64 ∧ x.f0 < 281474976710656 ∧ okH next x.f0 t) ↔ _
    rw [okH_iff next t x.f0]
    unfold SA
    rw [List.pairwise_cons, List.forall_mem_cons]
    constructor
    · rintro ⟨h1, h2, h3, h4, h5⟩
      exact ⟨⟨fun y hy => (h5 y hy).1, h4⟩, ⟨h1, h2, h3⟩, fun y hy => ⟨Int.lt_trans h1 (h5 y hy).1, (h5 y hy).2⟩⟩
    · rintro ⟨⟨h1, h2⟩, ⟨h3, h4, h5⟩, h6⟩
      exact ⟨h3, h4, h5, h2, fun y hy => ⟨h1 y hy, (h6 y hy).2⟩⟩
def okB (next : Int) (l : List S142) : Prop := 0 ≤ next ∧ next ≤ 281474976710656 ∧ okH next next l
noncomputable instance (next : Int) (l : List S142) : Decidable (okB next l) := Classical.propDecidable _
theorem PRight_l0 (next : Int) (h0 : 0 ≤ next) (h1 : next ≤ 281474976710656) (l : List S142) (hl : l.length ≤ 1000000) (hw : ∀ x ∈ l, x.f0 ≤ 9223372036854775807) : ∀ (d i : Nat) (last : Int), l.length - i = d → i ≤ l.length → next ≤ last → Ev (fun k => inbox_Right.l0 k last l (l.length : Int) (i : Int) next l) (decide (okH next last (l.drop i))) := by
  intro d
  induction d with
  | zero =>
    intro i last hd hi hla
    obtain rfl : i = l.length := by omega
    apply ev_succ
    simp only [inbox_Right.l0, if_neg (show ¬ ((l.length : Int) < (l.length : Int)) by omega), List.drop_length]
    exact ev_eq (ev_some _) (decide_eq_true (show okH next last [] from trivial)).symm
  | succ d ih =>
    intro i last hd hi hla
    have hlt : i < l.length := by omega
    have hwi : wrap64 ((i : Int) + 1) = ((i + 1 : Nat) : Int) := by rw [w64 (by omega) (by omega)]; omega
    have hx := hw l[i] (List.getElem_mem hlt)
    have hdr : okH next last (l.drop i) ↔ (last < l[i].f0 ∧ l[i].f0 < next + 64 ∧ l[i].f0 < 281474976710656 ∧ okH next l[i].f0 (l.drop (i + 1))) := by
      rw [List.drop_eq_getElem_cons hlt]
      exact Iff.rfl
    apply ev_succ
    simp only [inbox_Right.l0, if_pos (show (i : Int) < (l.length : Int) by omega), if_pos (show (0 : Int) ≤ (i : Int) by omega), rd142 l i hlt, hwi]
    by_cases c1 : l[i].f0 ≤ last
    · simp only [if_pos c1]
      exact ev_eq (ev_some _) (decide_eq_false (fun h => by have := (hdr.1 h).1; omega)).symm
    · have e : wrap64 (l[i].f0 - next) = l[i].f0 - next := w64 (by omega) (by omega)
      simp only [if_neg c1, e]
      by_cases c2 : l[i].f0 - next ≥ 64
      · simp only [if_pos c2]
        exact ev_eq (ev_some _) (decide_eq_false (fun h => by have := (hdr.1 h).2.1; omega)).symm
      · simp only [if_neg c2]
        by_cases c3 : l[i].f0 ≥ 281474976710656
        · simp only [if_pos c3]
          exact ev_eq (ev_some _) (decide_eq_false (fun h => by have := (hdr.1 h).2.2.1; omega)).symm
        · simp only [if_neg c3]
          refine ev_eq (ih (i + 1) l[i].f0 (by omega) (by omega) (by omega)) (decide_eq_decide.2 ?_)
          rw [hdr]
          exact ⟨fun h => ⟨by omega, by omega, by omega, h⟩, fun h => h.2.2.2⟩
theorem PRight_ev (next : Int) (l : List S142) (hl : l.length ≤ 1000000) (hw : ∀ x ∈ l, x.f0 ≤ 9223372036854775807) : Ev (fun k => inbox_Right.f k next l) (decide (okB next l)) := by
  unfold inbox_Right.f
  by_cases c1 : next < 0
  · simp only [if_pos c1]
    apply ev_succ
    simp only [inbox_Right.j0, if_true]
    exact ev_eq (ev_some _) (decide_eq_false (fun h => by have := h.1; omega)).symm
  · simp only [if_neg c1]
    apply ev_succ
    by_cases c2 : next > 281474976710656
    · simp only [inbox_Right.j0, decide_eq_true c2, if_true]
      exact ev_eq (ev_some _) (decide_eq_false (fun h => by have := h.2.1; omega)).symm
    · simp only [inbox_Right.j0, decide_eq_false c2, Bool.false_eq_true, if_false]
      refine ev_eq (PRight_l0 next (by omega) (by omega) l hl hw l.length 0 next (by omega) (by omega) (by omega)) (decide_eq_decide.2 ?_)
      rw [List.drop_zero]
      exact ⟨fun h => ⟨by omega, by omega, h⟩, fun h => h.2.2⟩
theorem RRight_l0 (next : Int) (h0 : 0 ≤ next) (h1 : next ≤ 281474976710656) (l : List S142) (hl : l.length ≤ 1000000) : ∀ (d i : Nat) (last : Int), l.length - i = d → i ≤ l.length → next ≤ last → (i = 0 → last = next) → (∀ h : 0 < i, ∀ h2 : i - 1 < l.length, last = (l[i - 1]).f0) → Ev (fun k => batonref32_Right.l0 k (i : Int) next (l.map cv)) (decide (okH next last (l.drop i))) := by
  have hml : (l.map cv).length = l.length := List.length_map cv
  have hrd : ∀ (j : Nat) (h : j < l.length), rd_T144 (l.map cv) (j : Int) = cv l[j] := fun j h => by rw [rd144 _ j (by omega), List.getElem_map]
  intro d
  induction d with
  | zero =>
    intro i last hd hi hla q0 q1
    obtain rfl : i = l.length := by omega
    apply ev_succ
    simp only [batonref32_Right.l0, hml, if_neg (show ¬ ((l.length : Int) < (l.length : Int)) by omega), List.drop_length]
    exact ev_eq (ev_some _) (decide_eq_true (show okH next last [] from trivial)).symm
  | succ d ih =>
    intro i last hd hi hla q0 q1
    have hlt : i < l.length := by omega
    have hwi : wrap64 ((i : Int) + 1) = ((i + 1 : Nat) : Int) := by rw [w64 (by omega) (by omega)]; omega
    have hwn : wrap64 (next + 64) = next + 64 := w64 (by omega) (by omega)
    have hdr : okH next last (l.drop i) ↔ (last < l[i].f0 ∧ l[i].f0 < next + 64 ∧ l[i].f0 < 281474976710656 ∧ okH next l[i].f0 (l.drop (i + 1))) := by
      rw [List.drop_eq_getElem_cons hlt]
      exact Iff.rfl
    have hcv : (cv l[i]).f0 = l[i].f0 := rfl
    apply ev_succ
    simp only [batonref32_Right.l0, hml, if_pos (show (i : Int) < (l.length : Int) by omega), if_pos (show (0 : Int) ≤ (i : Int) by omega), hrd i hlt, hwi, hwn, hcv]
    by_cases c1 : l[i].f0 ≤ next
    · simp only [if_pos c1]
      exact ev_eq (ev_some _) (decide_eq_false (fun h => by have := (hdr.1 h).1; omega)).symm
    · simp only [if_neg c1]
      by_cases c2 : l[i].f0 ≥ next + 64
      · simp only [if_pos c2]
        exact ev_eq (ev_some _) (decide_eq_false (fun h => by have := (hdr.1 h).2.1; omega)).symm
      · simp only [if_neg c2]
        by_cases c3 : l[i].f0 ≥ 281474976710656
        · simp only [if_pos c3]
          exact ev_eq (ev_some _) (decide_eq_false (fun h => by have := (hdr.1 h).2.2.1; omega)).symm
        · simp only [if_neg c3]
          have go : last < l[i].f0 → Ev (fun k => batonref32_Right.l0 k ((i + 1 : Nat) : Int) next (l.map cv)) (decide (okH next last (l.drop i))) := fun h4 => by
            refine ev_eq (ih (i + 1) l[i].f0 (by omega) (by omega) (by omega) (fun h => by omega) (fun _ _ => by simp)) (decide_eq_decide.2 ?_)
            rw [hdr]
            exact ⟨fun h => ⟨by omega, by omega, by omega, h⟩, fun h => h.2.2.2⟩
          by_cases c4 : (i : Int) > 0
          · have hlt1 : i - 1 < l.length := by omega
            have e := q1 (by omega) hlt1
            have hw1 : wrap64 ((i : Int) - 1) = ((i - 1 : Nat) : Int) := by rw [w64 (by omega) (by omega)]; omega
            have hcv1 : (cv l[i - 1]).f0 = l[i - 1].f0 := rfl
            simp only [if_pos c4, hw1, if_pos (show (0 : Int) ≤ ((i - 1 : Nat) : Int) by omega), if_pos (show ((i - 1 : Nat) : Int) < (l.length : Int) by omega), hrd (i - 1) hlt1, hcv1]
            by_cases c5 : l[i].f0 ≤ l[i - 1].f0
            · simp only [if_pos c5]
              exact ev_eq (ev_some _) (decide_eq_false (fun h => by have := (hdr.1 h).1; omega)).symm
            · simp only [if_neg c5]
              exact go (by omega)
          · simp only [if_neg c4]
            exact go (by have := q0 (by omega); omega)
theorem RRight_ev (next : Int) (l : List S142) (hl : l.length ≤ 1000000) : Ev (fun k => batonref32_Right.f k next (l.map cv)) (decide (okB next l)) := by
  unfold batonref32_Right.f
  by_cases c1 : next < 0
  · simp only [if_pos c1]
    apply ev_succ
    simp only [batonref32_Right.j0, if_true]
    exact ev_eq (ev_some _) (decide_eq_false (fun h => by have := h.1; omega)).symm
  · simp only [if_neg c1]
    apply ev_succ
    by_cases c2 : next > 281474976710656
    · simp only [batonref32_Right.j0, decide_eq_true c2, if_true]
      exact ev_eq (ev_some _) (decide_eq_false (fun h => by have := h.2.1; omega)).symm
    · simp only [batonref32_Right.j0, decide_eq_false c2, Bool.false_eq_true, if_false]
      refine ev_eq (RRight_l0 next (by omega) (by omega) l hl l.length 0 next (by omega) (by omega) (by omega) (fun _ => rfl) (fun h => by omega)) (decide_eq_decide.2 ?_)
      rw [List.drop_zero]
      exact ⟨fun h => ⟨by omega, by omega, h⟩, fun h => h.2.2⟩
theorem RSame_ev (n : Int) (a : List S144) (hl : a.length ≤ 1000000) : Ev (fun k => batonref32_Same.f k n a n a) true := by
  have h0 : ∀ (d i : Nat), a.length - i = d → i ≤ a.length → Ev (fun k => batonref32_Same.l0 k (i : Int) n a n a) true := by
    intro d
    induction d with
    | zero =>
      intro i hd hi
      obtain rfl : i = a.length := by omega
      apply ev_succ
      simp only [batonref32_Same.l0, if_neg (show ¬ ((a.length : Int) < (a.length : Int)) by omega)]
      exact ev_some _
    | succ d ih =>
      intro i hd hi
      have hw : wrap64 ((i : Int) + 1) = ((i + 1 : Nat) : Int) := by rw [w64 (by omega) (by omega)]; omega
      apply ev_succ
      simp only [batonref32_Same.l0, if_pos (show (i : Int) < (a.length : Int) by omega), if_pos (show (0 : Int) ≤ (i : Int) by omega), beq_self_eq_true, Bool.not_true, Bool.or_self, Bool.false_eq_true, if_false, hw]
      exact ih (i + 1) (by omega) (by omega)
  unfold batonref32_Same.f
  simp only [if_true, bne_self_eq_false]
  apply ev_succ
  simp only [batonref32_Same.j0, Bool.false_eq_true, if_false]
  exact h0 a.length 0 (by omega) (by omega)

end Go.Proofs.Ytdbfclfglpbpmaa.LF32T
