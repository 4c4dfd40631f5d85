/- Plain lemmas on the functions of this family (InboxOnce): what each loop comes to. No condition. -/
import Derived.Test.YtdbfclfglpbpmaaBase
import Derived.Test.YtdbfclfglpbpmaaPF32Ox
namespace Go.Proofs.Ytdbfclfglpbpmaa.LF32O
open Go.RowKit Go.Proofs.Ytdbfclfglpbpmaa.Base Go.Proofs.YtdbfclfglpbpmaaW.PrintWords Go.Proofs.YtdbfclfglpbpmaaW.PrintMore Go.Proofs.Ytdbfclfglpbpmaa.PF32O
set_option linter.unusedVariables false
set_option linter.unusedSimpArgs false

/-! ### batonref01 -/
theorem Same_l0 (a b : List Int) (h : a.length = b.length) (hl : a.length ≤ 9000000000000000000) : ∀ (d i : Nat), a.length - i = d → i ≤ a.length → Ev (fun k => batonref01_Same.l0 k a b (i : Int)) (decide (a.drop i = b.drop i)) := by
  intro d
  induction d with
  | zero =>
    intro i hd hi
    obtain rfl : i = a.length := by omega
    apply ev_succ
    simp only [batonref01_Same.l0, if_neg (show ¬ ((a.length : Int) < (a.length : Int)) by omega)]
    exact ev_eq (ev_some _) (by simp [h])
  | succ d ih =>
    intro i hd hi
    have hlt : i < a.length := by omega
    have hltb : i < b.length := by omega
    have hw : wrap64 ((i : Int) + 1) = ((i + 1 : Nat) : Int) := by rw [w64 (by omega) (by omega)]; omega
    apply ev_succ
    simp only [batonref01_Same.l0, if_pos (show (i : Int) < (a.length : Int) by omega), if_pos (show (0 : Int) ≤ (i : Int) by omega), if_pos (show (i : Int) < (b.length : Int) by omega), rd_lt hlt, rd_lt hltb, hw]
    have key : (a.drop i = b.drop i) ↔ (a[i] = b[i] ∧ a.drop (i + 1) = b.drop (i + 1)) := by
      rw [List.drop_eq_getElem_cons hlt, List.drop_eq_getElem_cons hltb]
      exact List.cons_eq_cons
    by_cases e : a[i] = b[i]
    · simp only [if_pos e]
      refine ev_eq (ih (i + 1) (by omega) (by omega)) ?_
      simp only [key, e, true_and]
    · simp only [if_neg e]
      refine ev_eq (ev_some _) ?_
      simp only [key, e, false_and, decide_false]
theorem Same_ev (a b : List Int) (hl : a.length ≤ 9000000000000000000) : Ev (fun k => batonref01_Same.f k a b) (decide (a = b)) := by
  unfold batonref01_Same.f
  by_cases h : a.length = b.length
  · simp only [if_pos (show (a.length : Int) = (b.length : Int) by omega)]
    exact ev_eq (Same_l0 a b h hl a.length 0 (by omega) (by omega)) (by simp)
  · simp only [if_neg (show ¬ ((a.length : Int) = (b.length : Int)) by omega)]
    exact ev_eq (ev_some _) (by simp; intro e; exact h (by rw [e]))

/-! ### boxes: rows of numbered keystrokes -/
def SA (l : List S142) : Prop := l.Pairwise (fun a b => a.f0 < b.f0)
def lookH : List S142 → Int → Option Int
  | [], _ => none
  | x :: t, n => if x.f0 = n then some x.f1 else lookH t n
theorem rd142 (l : List S142) (i : Nat) (h : i < l.length) : rd_T142 l (i : Int) = l[i] := by
  unfold rd_T142
  simp [List.getD_eq_getElem?_getD, h]
theorem look_no : ∀ (l : List S142) (n : Int), (∀ x ∈ l, x.f0 ≠ n) → lookH l n = none
  | [], _, _ => rfl
  | x :: t, n, h => by
    unfold lookH
    rw [if_neg (h x (by simp))]
    exact look_no t n (fun y hy => h y (by simp [hy]))
theorem look_app : ∀ (A B : List S142) (n : Int), (∀ x ∈ A, x.f0 ≠ n) → lookH (A ++ B) n = lookH B n
  | [], _, _, _ => rfl
  | x :: t, B, n, h => by
    show (if x.f0 = n then some x.f1 else lookH (t ++ B) n) = _
    rw [if_neg (h x (by simp))]
    exact look_app t B n (fun y hy => h y (by simp [hy]))
theorem look_pre : ∀ (A B C : List S142) (n : Int), (∀ x ∈ B, x.f0 ≠ n) → lookH (A ++ (B ++ C)) n = lookH (A ++ C) n
  | [], B, C, n, h => look_app B C n h
  | x :: t, B, C, n, h => by
    show (if x.f0 = n then some x.f1 else lookH (t ++ (B ++ C)) n) = (if x.f0 = n then some x.f1 else lookH (t ++ C) n)
    rw [look_pre t B C n h]
theorem sa_split (id : Int) : ∀ (l : List S142), SA l → ∃ A B, l = A ++ B ∧ (∀ x ∈ A, x.f0 < id) ∧ ((∀ x ∈ B, id < x.f0) ∨ ∃ y C, B = y :: C ∧ y.f0 = id ∧ ∀ x ∈ C, id < x.f0)
  | [], _ => ⟨[], [], rfl, by simp, .inl (by simp)⟩
  | x :: t, h => by
    obtain ⟨hgt, h3⟩ := List.pairwise_cons.1 h
    by_cases c1 : x.f0 < id
    · obtain ⟨A, B, rfl, hA, hB⟩ := sa_split id t h3
      exact ⟨x :: A, B, rfl, List.forall_mem_cons.2 ⟨c1, hA⟩, hB⟩
    · by_cases c2 : x.f0 = id
      · exact ⟨[], x :: t, rfl, by simp, .inr ⟨x, t, rfl, c2, fun z hz => by have := hgt z hz; omega⟩⟩
      · exact ⟨[], x :: t, rfl, by simp, .inl (List.forall_mem_cons.2 ⟨by omega, fun z hz => by have := hgt z hz; omega⟩)⟩
theorem bsI_eq (id : Int) (l : List S142) (m : Nat) (hA : ∀ k (h : k < l.length), k < m → l[k].f0 < id) (hB : ∀ k (h : k < l.length), m ≤ k → id ≤ l[k].f0) : ∀ (d : Nat) (i j : Int), 0 ≤ i → i ≤ (m : Int) → (m : Int) ≤ j → j ≤ (l.length : Int) → (j - i).toNat ≤ d → bsI id l d i j = (m : Int)
  | 0, i, j, h0, h1, h2, h3, h4 => by
    show i = (m : Int)
    omega
  | d + 1, i, j, h0, h1, h2, h3, h4 => by
    unfold bsI
    by_cases c : i < j
    · rw [if_pos c]
      obtain ⟨n, hn⟩ := Int.eq_ofNat_of_zero_le (show 0 ≤ (i + j) / 2 by omega)
      have hnl : n < l.length := by omega
      rw [hn, rd142 l n hnl]
      by_cases c2 : l[n].f0 < id
      · rw [if_pos c2]
        have hm : n < m := by
          rcases Nat.lt_or_ge n m with h | h
          · exact h
          · have := hB n hnl h; omega
        exact bsI_eq id l m hA hB d _ _ (by omega) (by omega) h2 h3 (by omega)
      · rw [if_neg c2]
        have hm : m ≤ n := by
          rcases Nat.lt_or_ge n m with h | h
          · exact absurd (hA n hnl h) c2
          · exact h
        exact bsI_eq id l m hA hB d _ _ h0 h1 (by omega) (by omega) (by omega)
    · rw [if_neg c]
      omega
theorem rd_mid (A C : List S142) (y : S142) : rd_T142 (A ++ y :: C) (A.length : Int) = y := by
  rw [rd142 _ _ (by simp)]
  simp
theorem bsI_app (id : Int) (A B : List S142) (hA : ∀ x ∈ A, x.f0 < id) (hB : ∀ x ∈ B, id ≤ x.f0) : bsI id (A ++ B) (A ++ B).length 0 ((A ++ B).length : Int) = (A.length : Int) := by
  refine bsI_eq id (A ++ B) A.length (fun k h hk => ?_) (fun k h hk => ?_) _ _ _ (by omega) (by omega) (by simp; omega) (by omega) (by omega)
  · rw [List.getElem_append_left hk]
    exact hA _ (List.getElem_mem hk)
  · rw [List.getElem_append_right hk]
    exact hB _ (List.getElem_mem _)
/-- One more, unless it was taken, or is held. -/
theorem hold_ok (l : List S142) (next n b : Int) (hs : SA l) (hl : l.length < 900000000) : ∃ l', inbox_hold.f l next n b = some l' ∧ SA l' ∧ l'.length ≤ l.length + 1 ∧ (∀ m, lookH l' m = if m = n ∧ lookH l n = none ∧ next ≤ n then some b else lookH l m) ∧ (∀ x ∈ l', x ∈ l ∨ (x = ⟨n, b⟩ ∧ next ≤ n)) := by
  obtain ⟨A, B, rfl, hA, hB⟩ := sa_split n l hs
  unfold inbox_hold.f inbox_Held_int.f
  rw [if_pos (by omega)]
  rcases hB with hB | ⟨y, C, rfl, hy, hC⟩
  · have hb := bsI_app n A B hA (fun x hx => Int.le_of_lt (hB x hx))
    have hno : lookH (A ++ B) n = none := by
      apply look_no
      intro x hx
      rcases List.mem_append.1 hx with h | h
      · have := hA x h; omega
      · have := hB x h; omega
    have hf : (decide ((A.length : Int) < ((A ++ B).length : Int)) && (rd_T142 (A ++ B) (A.length : Int)).f0 == n) = false := by
      cases B with
      | nil => simp
      | cons y C => rw [rd_mid, beq_eq_false_iff_ne.2 (by have := hB y (by simp); omega), Bool.and_false]
    simp only [hb, hf, Option.bind_some, Bool.false_eq_true, if_false]
    by_cases c : n < next
    · rw [if_pos c]
      refine ⟨_, rfl, hs, by omega, fun m => ?_, fun x hx => .inl hx⟩
      rw [if_neg (by omega)]
    · rw [if_neg c]
      unfold inbox_Held_101.f
      rw [if_pos ⟨by omega, by simp; omega, rfl, by omega⟩]
      simp only [Option.bind_some, Int.toNat_natCast, List.take_left, List.drop_left, List.append_assoc, List.singleton_append]
      have hsA := (List.pairwise_append.1 hs).1
      have hsB := (List.pairwise_append.1 hs).2.1
      refine ⟨_, rfl, ?_, by simp; omega, fun m => ?_, fun x hx => ?_⟩
      · refine List.pairwise_append.2 ⟨hsA, List.pairwise_cons.2 ⟨hB, hsB⟩, fun a ha b' hb' => ?_⟩
        rcases List.mem_cons.1 hb' with rfl | h
        · exact hA a ha
        · have := hA a ha; have := hB b' h; omega
      · by_cases e : m = n
        · subst e
          rw [if_pos ⟨rfl, hno, by omega⟩, look_app A _ m (fun x hx => by have := hA x hx; omega)]
          show (if m = m then some b else _) = _
          rw [if_pos rfl]
        · rw [if_neg (fun h => e h.1)]
          exact look_pre A [⟨n, b⟩] B m (fun x hx => by rw [List.mem_singleton.1 hx]; exact fun h => e h.symm)
      · rcases List.mem_append.1 hx with h | h
        · exact .inl (List.mem_append_left _ h)
        · rcases List.mem_cons.1 h with rfl | h
          · exact .inr ⟨rfl, by omega⟩
          · exact .inl (List.mem_append_right _ h)
  · have hb := bsI_app n A (y :: C) hA (fun x hx => by rcases List.mem_cons.1 hx with rfl | h; omega; have := hC x h; omega)
    have hf : (decide ((A.length : Int) < ((A ++ y :: C).length : Int)) && (rd_T142 (A ++ y :: C) (A.length : Int)).f0 == n) = true := by
      rw [rd_mid, hy, decide_eq_true (by simp; omega)]
      simp
    simp only [hb, hf, Option.bind_some, if_true]
    refine ⟨_, rfl, hs, by omega, fun m => ?_, fun x hx => .inl hx⟩
    have : lookH (A ++ y :: C) n = some y.f1 := by
      rw [look_app A _ n (fun x hx => by have := hA x hx; omega)]
      show (if y.f0 = n then some y.f1 else _) = _
      rw [if_pos hy]
    rw [if_neg (fun h => by rw [this] at h; simp at h)]
/-- What is held behind the first i of b. -/
def Mf (held : List S142) (next first : Int) (b : List Int) (i : Nat) (m : Int) : Option Int :=
  match lookH held m with
  | some c => some c
  | none => if first ≤ m ∧ m < first + i ∧ next ≤ m then some (rd b (m - first)) else none
def PF (held : List S142) (next first : Int) (b : List Int) (i : Nat) (H : List S142) : Prop :=
  SA H ∧ H.length ≤ held.length + i ∧ (∀ m, lookH H m = Mf held next first b i m) ∧ (∀ x ∈ H, x ∈ held ∨ (next ≤ x.f0 ∧ first ≤ x.f0 ∧ x.f0 < first + i ∧ x.f1 = rd b (x.f0 - first)))
theorem PF_step (held : List S142) (next first : Int) (b : List Int) (i : Nat) (H : List S142) (hp : PF held next first b i H) (hl : H.length < 900000000) : ∃ H', inbox_hold.f H next (first + i) (rd b i) = some H' ∧ PF held next first b (i + 1) H' := by
  obtain ⟨h1, h2, h3, h4⟩ := hp
  obtain ⟨H', e, g1, g2, g3, g4⟩ := hold_ok H next (first + i) (rd b i) h1 hl
  refine ⟨H', e, g1, by omega, fun m => ?_, fun x hx => ?_⟩
  · rw [g3 m, h3 m, h3 (first + i)]
    unfold Mf
    cases hm : lookH held m with
    | some c =>
      by_cases c1 : m = first + i
      · subst c1
        rw [hm]
        simp
      · rw [if_neg (fun h => c1 h.1)]
    | none =>
      by_cases c1 : m = first + i
      · subst c1
        rw [hm]
        dsimp only
        rw [if_neg (show ¬ (first ≤ first + (i : Int) ∧ first + (i : Int) < first + (i : Int) ∧ next ≤ first + (i : Int)) by omega)]
        by_cases c2 : next ≤ first + i
        · rw [if_pos ⟨rfl, rfl, c2⟩, if_pos ⟨by omega, by omega, c2⟩, show first + (i : Int) - first = (i : Int) by omega]
        · rw [if_neg (fun h => c2 h.2.2), if_neg (fun h => c2 h.2.2)]
      · rw [if_neg (fun h => c1 h.1)]
        dsimp only
        by_cases c2 : first ≤ m ∧ m < first + i ∧ next ≤ m
        · rw [if_pos c2, if_pos ⟨c2.1, by omega, c2.2.2⟩]
        · rw [if_neg c2, if_neg (fun h => c2 ⟨h.1, by omega, h.2.2⟩)]
  · rcases g4 x hx with h | ⟨rfl, h⟩
    · rcases h4 x h with h | ⟨q1, q2, q3, q4⟩
      · exact .inl h
      · exact .inr ⟨q1, q2, by omega, q4⟩
    · refine .inr ⟨h, show first ≤ first + (i : Int) by omega, show first + (i : Int) < first + ((i + 1 : Nat) : Int) by omega, ?_⟩
      show rd b i = rd b (first + i - first)
      rw [show first + (i : Int) - first = (i : Int) by omega]
theorem Take_l0 (held : List S142) (next first room : Int) (b : List Int) (hh : held.length + b.length < 800000000) (hf : 0 ≤ first) (hf2 : first + b.length ≤ 281474976710656) : ∀ (d i : Nat) (H : List S142), b.length - i = d → i ≤ b.length → PF held next first b i H →
    ∃ H', PF held next first b b.length H' ∧ ∀ r, Ev (fun k => inbox_Take.l1 k room [] next held next H') r → Ev (fun k => inbox_Take.l0 k first room b (b.length : Int) (i : Int) next held next H) r := by
  intro d
  induction d with
  | zero =>
    intro i H hd hi hp
    obtain rfl : i = b.length := by omega
    refine ⟨H, hp, fun r hr => ?_⟩
    apply ev_succ
    simp only [inbox_Take.l0, if_neg (show ¬ ((b.length : Int) < (b.length : Int)) by omega)]
    exact hr
  | succ d ih =>
    intro i H hd hi hp
    have hlt : i < b.length := by omega
    obtain ⟨H1, e, hp1⟩ := PF_step held next first b i H hp (by have := hp.2.1; omega)
    obtain ⟨H', hp', hr'⟩ := ih (i + 1) H1 (by omega) (by omega) hp1
    refine ⟨H', hp', fun r hr => ?_⟩
    have hw : wrap64 ((i : Int) + 1) = ((i + 1 : Nat) : Int) := by rw [w64 (by omega) (by omega)]; omega
    have hw2 : wrap64 (first + (i : Int)) = first + i := w64 (by omega) (by omega)
    apply ev_succ
    simp only [inbox_Take.l0, if_pos (show (i : Int) < (b.length : Int) by omega), if_pos (show (0 : Int) ≤ (i : Int) by omega), hw, hw2, e, Option.bind_some]
    exact hr' r hr
/-- Those that stand in line from n on, and the rest. -/
def run : Int → List S142 → List Int × List S142
  | _, [] => ([], [])
  | n, x :: t => if x.f0 = n then (x.f1 :: (run (n + 1) t).1, (run (n + 1) t).2) else ([], x :: t)
theorem run_len : ∀ (L : List S142) (n : Int), (run n L).1.length ≤ L.length
  | [], n => by simp [run]
  | x :: t, n => by
    unfold run
    split
    · have := run_len t (n + 1)
      simp
      omega
    · simp
theorem Take_l1 (room x0 : Int) (xh : List S142) : ∀ (L : List S142) (n : Int) (out : List Int), 0 ≤ n → n + L.length ≤ 1000000000000000 → out.length + L.length ≤ 900000000 →
    Ev (fun k => inbox_Take.l1 k room out x0 xh n L) (if ((out ++ (run n L).1).length : Int) > room then (x0, xh, [], 2) else (n + (run n L).1.length, (run n L).2, out ++ (run n L).1, 0))
  | [], n, out, h0, h1, h2 => by
    apply ev_succ
    simp only [inbox_Take.l1, List.length_nil, if_neg (show ¬ (((0 : Nat) : Int) > 0) by decide), run, List.append_nil]
    by_cases c : (out.length : Int) > room
    · simp only [if_pos c]
      exact ev_some _
    · simp only [if_neg c]
      exact ev_eq (ev_some _) (by simp)
  | x :: t, n, out, h0, h1, h2 => by
    simp only [List.length_cons] at h1 h2
    have hr : rd_T142 (x :: t) 0 = x := rfl
    apply ev_succ
    simp only [inbox_Take.l1, if_pos (show (((x :: t).length : Nat) : Int) > 0 by simp only [List.length_cons]; omega), if_pos (show (0 : Int) < (((x :: t).length : Nat) : Int) by simp only [List.length_cons]; omega), if_pos (show (1 : Int) ≤ (((x :: t).length : Nat) : Int) by simp only [List.length_cons]; omega), hr]
    by_cases c : x.f0 = n
    · have ih := Take_l1 room x0 xh t (n + 1) (out ++ [x.f1]) (by omega) (by omega) (by simp; omega)
      simp only [if_pos c, if_pos (show out.length < 140737488355328 by omega)]
      rw [show wrap64 (n + 1) = n + 1 from w64 (by omega) (by omega), show (x :: t).drop (1 : Int).toNat = t from rfl]
      refine ev_eq ih ?_
      have e : run n (x :: t) = (x.f1 :: (run (n + 1) t).1, (run (n + 1) t).2) := by
        show (if x.f0 = n then _ else _) = _
        rw [if_pos c]
      rw [e]
      simp only [List.append_assoc, List.singleton_append, List.length_cons]
      split
      · rfl
      · congr 1
        omega
    · simp only [if_neg c]
      have e : run n (x :: t) = ([], x :: t) := by
        show (if x.f0 = n then _ else _) = _
        rw [if_neg c]
      rw [e, List.append_nil]
      by_cases c2 : (out.length : Int) > room
      · simp only [if_pos c2]
        exact ev_some _
      · simp only [if_neg c2]
        exact ev_eq (ev_some _) (by simp)
theorem run_spec : ∀ (L : List S142) (n : Int), SA L → (∀ x ∈ L, n ≤ x.f0) → (∀ j (h : j < (run n L).1.length), lookH L (n + j) = some (run n L).1[j]) ∧ lookH L (n + (run n L).1.length) = none ∧ SA (run n L).2 ∧ (∀ x ∈ (run n L).2, n + (run n L).1.length < x.f0 ∧ x ∈ L) ∧ (∀ m, n + (run n L).1.length ≤ m → lookH (run n L).2 m = lookH L m)
  | [], n, _, _ => ⟨fun j h => by simp [run] at h, rfl, List.Pairwise.nil, fun x hx => by simp [run] at hx, fun m _ => rfl⟩
  | x :: t, n, hs, hn => by
    obtain ⟨hgt, hst⟩ := List.pairwise_cons.1 hs
    by_cases c : x.f0 = n
    · obtain ⟨i1, i2, i3, i4, i5⟩ := run_spec t (n + 1) hst (fun y hy => by have := hgt y hy; omega)
      have e1 : (run n (x :: t)).1 = x.f1 :: (run (n + 1) t).1 := by show (if x.f0 = n then _ else _ : List Int × List S142).1 = _; rw [if_pos c]
      have e2 : (run n (x :: t)).2 = (run (n + 1) t).2 := by show (if x.f0 = n then _ else _ : List Int × List S142).2 = _; rw [if_pos c]
      have hl : ∀ m, m ≠ n → lookH (x :: t) m = lookH t m := fun m hm => by
        show (if x.f0 = m then _ else _) = _
        rw [if_neg (by omega)]
      rw [e1, e2]
      simp only [List.length_cons]
      refine ⟨fun j hj => ?_, ?_, i3, fun y hy => ?_, fun m hm => ?_⟩
      · cases j with
        | zero =>
          show (if x.f0 = n + ((0 : Nat) : Int) then some x.f1 else _) = _
          rw [if_pos (by omega)]
          rfl
        | succ j =>
          rw [hl _ (by omega), show n + ((j + 1 : Nat) : Int) = n + 1 + (j : Int) by omega]
          exact i1 j (by omega)
      · rw [hl _ (by omega), show n + (((run (n + 1) t).1.length + 1 : Nat) : Int) = n + 1 + ((run (n + 1) t).1.length : Int) by omega]
        exact i2
      · have := i4 y hy
        exact ⟨by omega, List.mem_cons_of_mem _ this.2⟩
      · rw [i5 m (by omega), hl m (by omega)]
    · have e1 : (run n (x :: t)).1 = [] := by show (if x.f0 = n then _ else _ : List Int × List S142).1 = _; rw [if_neg c]
      have e2 : (run n (x :: t)).2 = x :: t := by show (if x.f0 = n then _ else _ : List Int × List S142).2 = _; rw [if_neg c]
      have hxn : n < x.f0 := by have := hn x (by simp); omega
      rw [e1, e2]
      refine ⟨fun j hj => by simp at hj, ?_, hs, fun y hy => ?_, fun m _ => rfl⟩
      · apply look_no
        intro y hy
        rcases List.mem_cons.1 hy with rfl | h
        · simp; omega
        · have := hgt y h; simp; omega
      · refine ⟨?_, hy⟩
        rcases List.mem_cons.1 hy with rfl | h
        · simp; omega
        · have := hgt y h; simp; omega
/-- What is taken of any that comes. -/
theorem Take_ok (next : Int) (held : List S142) (first room : Int) (b : List Int) (hn0 : 0 ≤ next) (hn1 : next ≤ 281474976710656) (hs : SA held) (hk : ∀ x ∈ held, next < x.f0) (hh : held.length ≤ 100000) (hb : b.length ≤ 100000) (hf : 0 ≤ first) (hf2 : first + b.length ≤ 281474976710656) (hgap : 0 < b.length → first + b.length - next ≤ 64) :
    ∃ L, PF held next first b b.length L ∧ Ev (fun k => inbox_Take.f k next held first b room) (if ((run next L).1.length : Int) > room then (next, held, [], 2) else (next + (run next L).1.length, (run next L).2, (run next L).1, 0)) := by
  have hp0 : PF held next first b 0 held := by
    refine ⟨hs, by omega, fun m => ?_, fun x hx => .inl hx⟩
    unfold Mf
    cases lookH held m with
    | some c => rfl
    | none => rw [if_neg (by omega)]
  obtain ⟨L, hp, hr⟩ := Take_l0 held next first room b (by omega) hf hf2 b.length 0 held (by omega) (by omega) hp0
  refine ⟨L, hp, ?_⟩
  have hl := Take_l1 room next held L next [] hn0 (by have := hp.2.1; omega) (by have := hp.2.1; simp; omega)
  rw [List.nil_append] at hl
  have h1 := hr _ hl
  have hj1 : Ev (fun k => inbox_Take.j1 k first b room next held) (if ((run next L).1.length : Int) > room then (next, held, [], 2) else (next + (run next L).1.length, (run next L).2, (run next L).1, 0)) := by
    apply ev_succ
    simp only [inbox_Take.j1, inbox_Held_73.f, if_pos (show held.length < 8796093022208 by omega), Option.bind_some]
    exact h1
  unfold inbox_Take.f
  simp only [if_neg (show ¬ first < 0 by omega), if_neg (show ¬ (b.length : Int) > 281474976710656 by omega)]
  rw [show wrap64 (281474976710656 - (b.length : Int)) = 281474976710656 - (b.length : Int) from w64 (by omega) (by omega), decide_eq_false (show ¬ first > 281474976710656 - (b.length : Int) by omega)]
  apply ev_succ
  by_cases c : (b.length : Int) > 0
  · have := hgap (by omega)
    simp only [inbox_Take.j0, Bool.false_eq_true, if_false, if_pos c]
    rw [show wrap64 (first + (b.length : Int)) = first + b.length from w64 (by omega) (by omega), show wrap64 (first + (b.length : Int) - next) = first + b.length - next from w64 (by omega) (by omega)]
    simp only [if_neg (show ¬ first + (b.length : Int) - next > 64 by omega)]
    exact hj1
  · simp only [inbox_Take.j0, Bool.false_eq_true, if_false, if_neg c]
    exact hj1
/-- None is taken of what comes too early. -/
theorem Take_early (next : Int) (held : List S142) (first room : Int) (b : List Int) (hn0 : 0 ≤ next) (hn1 : next ≤ 281474976710656) (hf : 0 ≤ first) (hb : b.length ≤ 1000000) (hf2 : first + b.length ≤ 281474976710656) (h0 : 0 < b.length) (hgap : first + b.length - next > 64) : Ev (fun k => inbox_Take.f k next held first b room) (next, held, [], 2) := by
  unfold inbox_Take.f
  simp only [if_neg (show ¬ first < 0 by omega), if_neg (show ¬ (b.length : Int) > 281474976710656 by omega)]
  rw [show wrap64 (281474976710656 - (b.length : Int)) = 281474976710656 - (b.length : Int) from w64 (by omega) (by omega), decide_eq_false (show ¬ first > 281474976710656 - (b.length : Int) by omega)]
  apply ev_succ
  simp only [inbox_Take.j0, Bool.false_eq_true, if_false, if_pos (show (b.length : Int) > 0 by omega)]
  rw [show wrap64 (first + (b.length : Int)) = first + b.length from w64 (by omega) (by omega), show wrap64 (first + (b.length : Int) - next) = first + b.length - next from w64 (by omega) (by omega)]
  simp only [if_pos hgap]
  exact ev_some _
theorem awake32 : Ev (fun k => batonlaw32_awake.f k) true := Ev.of (fun k => batonlaw32_awake.mono k) (k := 30) (by decide +kernel)

end Go.Proofs.Ytdbfclfglpbpmaa.LF32O
