/- The law CellBack, of plain lists: what is written of any cells and pens is what the page says, and they are read back from it, whatever stands behind. No condition beside the sizes that the row itself gives. -/
import Derived.Test.YtkckojgjkmcokaaLF09B
namespace Go.Proofs.Ytkckojgjkmcokaa.Pure
open Go.RowKit Go.Proofs.Ytkckojgjkmcokaa.Base Go.Proofs.YtkckojgjkmcokaaW.PrintWords Go.Proofs.YtkckojgjkmcokaaW.PrintMore Go.Proofs.Ytkckojgjkmcokaa.PF09B
set_option linter.unusedVariables false
set_option linter.unusedSimpArgs false
open Go.Proofs.Ytkckojgjkmcokaa.LF09B

theorem rd55 (l : List S55) (i : Nat) (h : i < l.length) : rd_T55 l (i : Int) = l[i] := by
  unfold rd_T55
  simp [List.getD_eq_getElem?_getD, h]
instance : DecidableEq S53 := fun a b => decidable_of_iff _ (eqc a b)
/-- The runs of n cells x and then those of a list. -/
def rfc : List S53 → S53 → Nat → List S55
  | [], x, n => [⟨(n : Int), x⟩]
  | y :: t, x, n => if x = y then rfc t x (n + 1) else ⟨(n : Int), x⟩ :: rfc t y 1
def rf : List S53 → List S55
  | [] => []
  | x :: t => rfc t x 1
def okk (x : S53) : Prop := okc x.f0 ∧ okp x.f1.f0 x.f1.f1 x.f1.f2
instance (x : S53) : Decidable (okk x) := by unfold okk; infer_instance
theorem okk.rng {x : S53} (h : okk x) : 0 ≤ x.f0 ∧ x.f0 ≤ 1114111 ∧ 0 ≤ x.f1.f0 ∧ x.f1.f0 ≤ 256 ∧ 0 ≤ x.f1.f1 ∧ x.f1.f1 ≤ 256 ∧ 0 ≤ x.f1.f2 ∧ x.f1.f2 < 128 := by
  obtain ⟨⟨_, h1, h2, _⟩, h3⟩ := h
  unfold okp at h3
  omega
def oneR (r : S55) : List Int := numF 7 r.f0 ++ (numF 7 r.f1.f0 ++ (numF 7 r.f1.f1.f0 ++ (numF 7 r.f1.f1.f1 ++ numF 7 r.f1.f1.f2)))
def flatR (o : List S55) : List Int := o.flatMap oneR
theorem flat_cons (r : S55) (o : List S55) : flatR (r :: o) = oneR r ++ flatR o := by simp [flatR]
theorem one_len (r : S55) : (oneR r).length ≤ 40 := by
  have h := numF_len 7
  have h0 := h r.f0
  have h1 := h r.f1.f0
  have h2 := h r.f1.f1.f0
  have h3 := h r.f1.f1.f1
  have h4 := h r.f1.f1.f2
  unfold oneR
  simp only [List.length_append]
  omega
theorem flat_len : ∀ (o : List S55), (flatR o).length ≤ 40 * o.length
  | [] => by simp [flatR]
  | r :: o => by
    have h := flat_len o
    have h1 := one_len r
    rw [flat_cons, List.length_append, List.length_cons]
    omega
structure ROk (r : S55) : Prop where
  n0 : 1 ≤ r.f0
  n1 : r.f0 ≤ 100
  ok : okk r.f1
theorem rfc_ok : ∀ (t : List S53) (x : S53) (n : Nat), 1 ≤ n → n + t.length ≤ 100 → okk x → (∀ y ∈ t, okk y) → (∀ r ∈ rfc t x n, ROk r) ∧ (rfc t x n).length ≤ t.length + 1
  | [], x, n, h0, h1, hx, ht => by
    refine ⟨fun r hr => ?_, by simp [rfc]⟩
    rw [show r = ⟨(n : Int), x⟩ by simpa [rfc] using hr]
    simp only [List.length_nil] at h1
    exact ⟨by show (1 : Int) ≤ (n : Int); omega, by show (n : Int) ≤ 100; omega, hx⟩
  | y :: t, x, n, h0, h1, hx, ht => by
    simp only [List.length_cons] at h1
    unfold rfc
    by_cases c : x = y
    · rw [if_pos c]
      have h := rfc_ok t x (n + 1) (by omega) (by omega) hx (fun z hz => ht z (by simp [hz]))
      exact ⟨h.1, by rw [List.length_cons]; omega⟩
    · rw [if_neg c]
      have h := rfc_ok t y 1 (by omega) (by omega) (ht y (by simp)) (fun z hz => ht z (by simp [hz]))
      refine ⟨fun r hr => ?_, by rw [List.length_cons, List.length_cons]; omega⟩
      rcases List.mem_cons.1 hr with e | e
      · rw [e]
        exact ⟨by show (1 : Int) ≤ (n : Int); omega, by show (n : Int) ≤ 100; omega, hx⟩
      · exact h.1 r e
theorem rf_ok (l : List S53) (hl : l.length ≤ 100) (ho : ∀ y ∈ l, okk y) : (∀ r ∈ rf l, ROk r) ∧ (rf l).length ≤ l.length := by
  cases l with
  | nil => simp [rf]
  | cons x t =>
    have h := rfc_ok t x 1 (by omega) (by simp only [List.length_cons] at hl; omega) (ho x (by simp)) (fun z hz => ho z (by simp [hz]))
    exact ⟨h.1, by rw [List.length_cons]; exact h.2⟩
/-! #### runs -/
theorem drop_at {α : Type} {l : List α} {i : Nat} {y : α} {t : List α} (h : l.drop i = y :: t) : ∃ hi : i < l.length, l[i] = y ∧ l.drop (i + 1) = t := by
  have hi : i < l.length := by
    refine Decidable.byContradiction (fun hn => ?_)
    rw [List.drop_eq_nil_of_le (by omega)] at h
    simp at h
  rw [List.drop_eq_getElem_cons hi] at h
  simp only [List.cons.injEq] at h
  exact ⟨hi, h⟩
theorem drop_end {α : Type} {l : List α} {i : Nat} (h : l.drop i = []) : l.length ≤ i := List.drop_eq_nil_iff.1 h
theorem set_last {α : Type} (o : List α) (r r' : α) : (o ++ [r]).set o.length r' = o ++ [r'] := by
  rw [List.set_append_right _ _ (Nat.le_refl _)]
  simp
theorem Runs_l0 (l : List S53) (hl : l.length ≤ 100) : ∀ (t : List S53) (i : Nat) (o : List S55) (x : S53) (n : Nat), l.drop i = t → i ≤ l.length → n ≤ i → o.length ≤ i → Ev (fun k => cell_Runs.l0 k (o ++ [⟨(n : Int), x⟩]) l (l.length : Int) (i : Int)) (o ++ rfc t x n) := by
  intro t
  induction t with
  | nil =>
    intro i o x n ht hi hn ho
    have := drop_end ht
    apply ev_succ
    simp only [cell_Runs.l0, if_neg (show ¬ ((i : Int) < (l.length : Int)) by omega)]
    exact ev_some _
  | cons y t ih =>
    intro i o x n ht hi hn ho
    obtain ⟨hlt, hy, ht'⟩ := drop_at ht
    have hw : wrap64 ((i : Int) + 1) = ((i + 1 : Nat) : Int) := by rw [w64 (by omega) (by omega)]; omega
    have hwn : wrap64 ((n : Int) + 1) = ((n + 1 : Nat) : Int) := by rw [w64 (by omega) (by omega)]; omega
    have hol : ((o ++ [(⟨(n : Int), x⟩ : S55)]).length : Int) = (o.length : Int) + 1 := by simp
    have hwl : wrap64 ((o.length : Int) + 1 - 1) = (o.length : Int) := by rw [w64 (by omega) (by omega)]; omega
    have hrd : rd_T55 (o ++ [(⟨(n : Int), x⟩ : S55)]) (o.length : Int) = ⟨(n : Int), x⟩ := by rw [rd55 _ _ (by simp)]; simp
    apply ev_succ
    simp only [cell_Runs.l0, if_pos (show (i : Int) < (l.length : Int) by omega), if_pos (show (0 : Int) ≤ (i : Int) by omega), rd53 l i hlt, hy, hol, hwl, if_pos (show (o.length : Int) + 1 > 0 by omega), if_pos (show (0 : Int) ≤ (o.length : Int) by omega), if_pos (show (o.length : Int) < (o.length : Int) + 1 by omega), hrd, hw, hwn, Int.toNat_natCast, set_last]
    unfold rfc
    by_cases c : x = y
    · subst c
      rw [if_pos rfl]
      simp only [beq_self_eq_true, Bool.and_true, if_true]
      exact ih (i + 1) o x (n + 1) ht' (by omega) (by omega) (by omega)
    · simp only [eqc_ne c, Bool.false_eq_true, if_false]
      rw [if_neg c]
      have h := ih (i + 1) (o ++ [⟨(n : Int), x⟩]) y 1 ht' (by omega) (by omega) (by simp; omega)
      simp only [if_pos (show (o ++ [(⟨(n : Int), x⟩ : S55)]).length < 3518437208883 by rw [List.length_append, List.length_singleton]; omega)]
      exact ev_eq h (by simp)
theorem Runs_ev (l : List S53) (hl : l.length ≤ 100) : Ev (fun k => cell_Runs.f k l) (rf l) := by
  unfold cell_Runs.f
  cases l with
  | nil =>
    apply ev_succ
    simp only [cell_Runs.l0, List.length_nil, Int.ofNat_zero, Int.natCast_zero, Int.lt_irrefl, if_false]
    exact ev_some _
  | cons x t =>
    have h := Runs_l0 (x :: t) hl t 1 [] x 1 rfl (by simp) (by omega) (by simp)
    have hr : rd_T53 (x :: t) 0 = x := rfl
    apply ev_succ
    simp only [cell_Runs.l0, if_pos (show (0 : Int) < ((x :: t).length : Int) by rw [List.length_cons]; omega), if_pos (show (0 : Int) ≤ 0 by omega), List.length_nil, Int.natCast_zero, Int.ofNat_zero, gt_iff_lt, Int.lt_irrefl, if_false, hr, show wrap64 ((0 : Int) + 1) = ((1 : Nat) : Int) by rw [w64 (by omega) (by omega)]; rfl, if_pos (show (0 : Nat) < 3518437208883 by omega)]
    exact h
/-! #### the reference's bytes -/
theorem RN_l0 : ∀ (f : Nat) (n : Int) (l : List Int), 0 ≤ n → n < 2 ^ (7 * (f + 1)) → f ≤ 7 → l.length + f ≤ 1000000000 → Ev (fun k => batonref06_Number.l0 k n l) (l ++ numF f n) := by
  intro f
  induction f with
  | zero =>
    intro n l h0 h1 hf hl
    have h1' : n < 128 := by simpa using h1
    apply ev_succ
    simp only [batonref06_Number.l0, if_neg (show ¬ n > 127 by omega), if_pos (show l.length < 140737488355328 by omega)]
    rw [show n % 256 = n by omega]
    exact ev_some _
  | succ f ih =>
    intro n l h0 h1 hf hl
    apply ev_succ
    by_cases c : n > 127
    · have hp : (2 : Int) ^ (7 * (f + 1 + 1)) = 128 * 2 ^ (7 * (f + 1)) := by rw [show 7 * (f + 1 + 1) = 7 + 7 * (f + 1) by omega, Int.pow_add]; rfl
      have h1' : n / 128 < 2 ^ (7 * (f + 1)) := by rw [hp] at h1; omega
      have hb : n < 72057594037927936 := by
        refine Int.lt_of_lt_of_le h1 ?_
        exact pow2_le (b := 56) (by omega)
      have e1 : Int.tmod n 128 = n % 128 := Int.tmod_eq_emod_of_nonneg h0
      have e2 : Int.tdiv n 128 = n / 128 := Int.tdiv_eq_ediv_of_nonneg h0
      have e3 : wrap64 (n / 128) = n / 128 := w64 (by omega) (by omega)
      have e4 : wrap64 (n % 128 + 128) = n % 128 + 128 := w64 (by omega) (by omega)
      have e5 : (n % 128 + 128) % 256 = n % 128 + 128 := by omega
      simp only [batonref06_Number.l0, if_pos c, e1, e2, e3, e4, e5, if_pos (show l.length < 140737488355328 by omega)]
      have h := ih (n / 128) (l ++ [n % 128 + 128]) (by omega) h1' (by omega) (by simp; omega)
      rw [List.append_assoc, List.singleton_append] at h
      unfold numF
      rw [if_neg (by omega)]
      exact h
    · simp only [batonref06_Number.l0, if_neg c, if_pos (show l.length < 140737488355328 by omega)]
      rw [show n % 256 = n by omega]
      unfold numF
      rw [if_pos (by omega)]
      exact ev_some _
theorem RN_ok (n : Int) (h0 : 0 ≤ n) (h1 : n < 72057594037927936) : Ev (fun k => batonref06_Number.f k n) (numF 7 n) := by
  unfold batonref06_Number.f
  exact RN_l0 7 n [] h0 (by simpa using h1) (by omega) (by simp)
theorem RB_l1 (l : List S53) (i : Nat) (hi : i ≤ 1000) (L : List Int) (hL : L.length ≤ 1000) (hn : ∀ x ∈ L, 0 ≤ x ∧ x < 72057594037927936) (r : List Int) : ∀ (t : List Int) (j : Nat) (out : List Int), L.drop j = t → j ≤ L.length → out.length + 8 * t.length ≤ 100000000 → Ev (fun k => batonref09_Bytes.l0 k l (out ++ t.flatMap (numF 7)) 0 ((i + 1 : Nat) : Int)) r → Ev (fun k => batonref09_Bytes.l1 k l out (i : Int) L (L.length : Int) (j : Int)) r := by
  intro t
  induction t with
  | nil =>
    intro j out ht hj ho next
    have := drop_end ht
    have hw : wrap64 ((i : Int) + 1) = ((i + 1 : Nat) : Int) := by rw [w64 (by omega) (by omega)]; omega
    apply ev_succ
    simp only [batonref09_Bytes.l1, if_neg (show ¬ ((j : Int) < (L.length : Int)) by omega), hw]
    simpa using next
  | cons y t ih =>
    intro j out ht hj ho next
    obtain ⟨hlt, hy, ht'⟩ := drop_at ht
    have hw : wrap64 ((j : Int) + 1) = ((j + 1 : Nat) : Int) := by rw [w64 (by omega) (by omega)]; omega
    have hyn := hn y (hy ▸ List.getElem_mem hlt)
    have hnl := numF_len 7 y
    simp only [List.length_cons] at ho
    apply ev_succ
    simp only [batonref09_Bytes.l1, if_pos (show (j : Int) < (L.length : Int) by omega), if_pos (show (0 : Int) ≤ (j : Int) by omega), rd_lt hlt, hy, hw]
    refine ev_bind (RN_ok y hyn.1 hyn.2) ?_
    simp only [if_pos (show out.length + (numF 7 y).length < 140737488355328 by omega)]
    refine ih (j + 1) (out ++ numF 7 y) ht' (by omega) (by rw [List.length_append]; omega) ?_
    rw [List.append_assoc]
    exact next
theorem RB_run (l : List S53) (i : Nat) (hi : i ≤ 1000) (n : Nat) (hn : n ≤ 1000) (x : S53) (hx : okk x) (out r : List Int) (ho : out.length ≤ 10000000) (next : Ev (fun k => batonref09_Bytes.l0 k l (out ++ oneR ⟨(n : Int), x⟩) 0 ((i + 1 : Nat) : Int)) r) : Ev (fun k => batonref09_Bytes.l1 k l out (i : Int) [(n : Int), x.f0, x.f1.f0, x.f1.f1, x.f1.f2] (([(n : Int), x.f0, x.f1.f0, x.f1.f1, x.f1.f2] : List Int).length : Int) 0) r := by
  have hr := hx.rng
  refine RB_l1 l i hi [(n : Int), x.f0, x.f1.f0, x.f1.f1, x.f1.f2] (by simp) (fun z hz => ?_) r [(n : Int), x.f0, x.f1.f0, x.f1.f1, x.f1.f2] 0 out rfl (by simp) (by simp; omega) ?_
  · simp only [List.mem_cons, List.not_mem_nil, or_false] at hz
    rcases hz with rfl | rfl | rfl | rfl | rfl <;> omega
  · have e : ([(n : Int), x.f0, x.f1.f0, x.f1.f1, x.f1.f2] : List Int).flatMap (numF 7) = oneR ⟨(n : Int), x⟩ := by simp [oneR]
    rw [e]
    exact next
theorem Ends_end (l : List S53) (i : Nat) (hi : i + 1 = l.length) (hl : l.length ≤ 100) : batonref09_Ends.f l (i : Int) = some true := by
  have hw : wrap64 ((i : Int) + 1) = ((i + 1 : Nat) : Int) := by rw [w64 (by omega) (by omega)]; omega
  unfold batonref09_Ends.f
  simp only [hw, if_pos (show ((i + 1 : Nat) : Int) = (l.length : Int) by omega)]
theorem Ends_mid (l : List S53) (i : Nat) (hi : i + 1 < l.length) (hl : l.length ≤ 100) : batonref09_Ends.f l (i : Int) = some (decide (l[i] ≠ l[i + 1])) := by
  have hw : wrap64 ((i : Int) + 1) = ((i + 1 : Nat) : Int) := by rw [w64 (by omega) (by omega)]; omega
  unfold batonref09_Ends.f
  simp only [hw, if_neg (show ¬ ((i + 1 : Nat) : Int) = (l.length : Int) by omega), if_pos (show (0 : Int) ≤ ((i + 1 : Nat) : Int) by omega), if_pos (show ((i + 1 : Nat) : Int) < (l.length : Int) by omega), if_pos (show (0 : Int) ≤ (i : Int) by omega), if_pos (show (i : Int) < (l.length : Int) by omega), rd53 l i (by omega), rd53 l (i + 1) hi]
  have h := neqc l[i + 1] l[i]
  congr 1
  rw [Bool.eq_iff_iff, h, decide_eq_true_iff]
  exact ⟨fun e e' => e e'.symm, fun e e' => e e'.symm⟩
theorem RB_l0 (l : List S53) (hl : l.length ≤ 100) (hok : ∀ y ∈ l, okk y) : ∀ (t : List S53) (i : Nat) (y : S53) (n : Nat) (out : List Int), l.drop i = y :: t → n ≤ i → out.length ≤ 40 * i → Ev (fun k => batonref09_Bytes.l0 k l out (n : Int) (i : Int)) (out ++ flatR (rfc t y (n + 1))) := by
  intro t
  induction t with
  | nil =>
    intro i y n out ht hn ho
    obtain ⟨hlt, hy, ht'⟩ := drop_at ht
    have he := drop_end ht'
    have hoy := hok y (hy ▸ List.getElem_mem hlt)
    have hwn : wrap64 ((n : Int) + 1) = ((n + 1 : Nat) : Int) := by rw [w64 (by omega) (by omega)]; omega
    have hwc : wrap64 y.f0 = y.f0 := by have := hoy.rng; exact w64 (by omega) (by omega)
    apply ev_succ
    simp only [batonref09_Bytes.l0, if_pos (show (i : Int) < (l.length : Int) by omega), Ends_end l i (by omega) hl, Option.bind_some, if_true, if_pos (show (0 : Int) ≤ (i : Int) by omega), rd53 l i hlt, hy, hwn, hwc]
    refine RB_run l i (by omega) (n + 1) (by omega) y hoy out _ (by omega) ?_
    apply ev_succ
    simp only [batonref09_Bytes.l0, if_neg (show ¬ (((i + 1 : Nat) : Int) < (l.length : Int)) by omega)]
    exact ev_eq (ev_some _) (by simp [rfc, flatR])
  | cons z t ih =>
    intro i y n out ht hn ho
    obtain ⟨hlt, hy, ht'⟩ := drop_at ht
    obtain ⟨hlt2, hz, ht2⟩ := drop_at ht'
    have hoy := hok y (hy ▸ List.getElem_mem hlt)
    have hwn : wrap64 ((n : Int) + 1) = ((n + 1 : Nat) : Int) := by rw [w64 (by omega) (by omega)]; omega
    have hwi : wrap64 ((i : Int) + 1) = ((i + 1 : Nat) : Int) := by rw [w64 (by omega) (by omega)]; omega
    have hwc : wrap64 y.f0 = y.f0 := by have := hoy.rng; exact w64 (by omega) (by omega)
    apply ev_succ
    simp only [batonref09_Bytes.l0, if_pos (show (i : Int) < (l.length : Int) by omega), Ends_mid l i (by omega) hl, Option.bind_some, hy, hz]
    unfold rfc
    by_cases c : y = z
    · subst c
      rw [if_pos rfl]
      simp only [ne_eq, not_true_eq_false, decide_false, Bool.false_eq_true, if_false, hwn, hwi]
      exact ih (i + 1) y (n + 1) out ht' (by omega) (by omega)
    · rw [if_neg c]
      simp only [ne_eq, c, not_false_eq_true, decide_true, if_true, if_pos (show (0 : Int) ≤ (i : Int) by omega), rd53 l i hlt, hy, hwn, hwc]
      refine RB_run l i (by omega) (n + 1) (by omega) y hoy out _ (by omega) ?_
      have h1 := one_len ⟨((n + 1 : Nat) : Int), y⟩
      have h := ih (i + 1) z 0 (out ++ oneR ⟨((n + 1 : Nat) : Int), y⟩) ht' (by omega) (by rw [List.length_append]; omega)
      rw [List.append_assoc] at h
      rw [flat_cons]
      exact h
theorem RB_ev (l : List S53) (hl : l.length ≤ 100) (hok : ∀ y ∈ l, okk y) : Ev (fun k => batonref09_Bytes.f k l) (flatR (rf l)) := by
  unfold batonref09_Bytes.f
  cases l with
  | nil =>
    apply ev_succ
    simp only [batonref09_Bytes.l0, List.length_nil, Int.ofNat_zero, Int.natCast_zero, Int.lt_irrefl, if_false]
    exact ev_some _
  | cons x t =>
    exact RB_l0 (x :: t) hl hok t 0 x 0 [] rfl (by omega) (by simp)
/-! #### written -/
theorem Wr_l1 (o : List S55) (ho : ∀ r ∈ o, ROk r) (hl : o.length ≤ 100) : ∀ (t : List S55) (i : Nat) (out : List Int), o.drop i = t → i ≤ o.length → out.length ≤ 40 * i → Ev (fun k => cell_Write.l1 k o (o.length : Int) (i : Int) out 0) (out ++ flatR t, 0) := by
  intro t
  induction t with
  | nil =>
    intro i out ht hi hol
    have := drop_end ht
    apply ev_succ
    simp only [cell_Write.l1, if_neg (show ¬ ((i : Int) < (o.length : Int)) by omega)]
    exact ev_eq (ev_some _) (by simp [flatR])
  | cons y t ih =>
    intro i out ht hi hol
    obtain ⟨hlt, hy, ht'⟩ := drop_at ht
    have hyo := ho y (hy ▸ List.getElem_mem hlt)
    have hr := hyo.ok.rng
    have hn0 := hyo.n0
    have hn1 := hyo.n1
    have hw : wrap64 ((i : Int) + 1) = ((i + 1 : Nat) : Int) := by rw [w64 (by omega) (by omega)]; omega
    have hwc : wrap64 y.f1.f0 = y.f1.f0 := w64 (by omega) (by omega)
    have hnl := numF_len 7
    have l0 := hnl y.f0
    have l1 := hnl y.f1.f0
    have l2 := hnl y.f1.f1.f0
    have l3 := hnl y.f1.f1.f1
    have h1 := one_len y
    apply ev_succ
    simp only [cell_Write.l1, if_pos (show (i : Int) < (o.length : Int) by omega), if_pos (show (0 : Int) ≤ (i : Int) by omega), rd55 o i hlt, hy, hw, hwc]
    refine ev_bind (WNum_ok y.f0 out (by omega) (by omega) (by omega)) ?_
    refine ev_bind (WNum_ok y.f1.f0 _ (by omega) (by omega) (by simp only [List.length_append]; omega)) ?_
    refine ev_bind (WNum_ok y.f1.f1.f0 _ (by omega) (by omega) (by simp only [List.length_append]; omega)) ?_
    refine ev_bind (WNum_ok y.f1.f1.f1 _ (by omega) (by omega) (by simp only [List.length_append]; omega)) ?_
    refine ev_bind (WNum_ok y.f1.f1.f2 _ (by omega) (by omega) (by simp only [List.length_append]; omega)) ?_
    have h := ih (i + 1) (out ++ oneR y) ht' (by omega) (by rw [List.length_append]; omega)
    rw [flat_cons, ← List.append_assoc]
    have e : out ++ oneR y = out ++ numF 7 y.f0 ++ numF 7 y.f1.f0 ++ numF 7 y.f1.f1.f0 ++ numF 7 y.f1.f1.f1 ++ numF 7 y.f1.f1.f2 := by simp only [oneR, List.append_assoc]
    rw [e] at h ⊢
    exact h
theorem Wr_l0 (l : List S53) (hl : l.length ≤ 100) (r : List Int × Int) : ∀ (t : List S53) (i : Nat), l.drop i = t → i ≤ l.length → ((∀ y ∈ t, okk y) → Ev (fun k => (cell_Runs.f k l).bind fun o => cell_Write.l1 k o (o.length : Int) 0 [] 0) r) → ((¬ ∀ y ∈ t, okk y) → r = ([], 1)) → Ev (fun k => cell_Write.l0 k l l (l.length : Int) (i : Int) [] 0) r := by
  intro t
  induction t with
  | nil =>
    intro i ht hi hy hn
    have := drop_end ht
    apply ev_succ
    simp only [cell_Write.l0, if_neg (show ¬ ((i : Int) < (l.length : Int)) by omega)]
    exact hy (by simp)
  | cons y t ih =>
    intro i ht hi hy hn
    obtain ⟨hlt, hyi, ht'⟩ := drop_at ht
    have hw : wrap64 ((i : Int) + 1) = ((i + 1 : Nat) : Int) := by rw [w64 (by omega) (by omega)]; omega
    apply ev_succ
    simp only [cell_Write.l0, if_pos (show (i : Int) < (l.length : Int) by omega), if_pos (show (0 : Int) ≤ (i : Int) by omega), rd53 l i hlt, hyi, hw]
    refine ev_bind (CRight_ev _ _ _ _) ?_
    by_cases c : okk y
    · rw [show decide (okc y.f0 ∧ okp y.f1.f0 y.f1.f1 y.f1.f2) = true from decide_eq_true c]
      simp only [if_true]
      refine ih (i + 1) ht' (by omega) (fun h => hy (fun z hz => ?_)) (fun h => hn (fun h' => h (fun z hz => h' z (by simp [hz]))))
      rcases List.mem_cons.1 hz with e | e
      · rw [e]; exact c
      · exact h z e
    · rw [show decide (okc y.f0 ∧ okp y.f1.f0 y.f1.f1 y.f1.f2) = false from decide_eq_false c]
      rw [hn (fun h => c (h y (by simp)))]
      exact ev_some _
theorem Wr_yes (l : List S53) (hl : l.length ≤ 100) (hok : ∀ y ∈ l, okk y) : Ev (fun k => cell_Write.f k [] 0 l) (flatR (rf l), 0) := by
  unfold cell_Write.f
  have ho := rf_ok l hl hok
  refine Wr_l0 l hl _ l 0 rfl (by omega) (fun _ => ?_) (fun h => absurd hok h)
  refine ev_bind (Runs_ev l hl) ?_
  exact Wr_l1 (rf l) ho.1 (by omega) (rf l) 0 [] rfl (by omega) (by simp)
theorem Wr_no (l : List S53) (hl : l.length ≤ 100) (hok : ¬ ∀ y ∈ l, okk y) : Ev (fun k => cell_Write.f k [] 0 l) ([], 1) := by
  unfold cell_Write.f
  exact Wr_l0 l hl _ l 0 rfl (by omega) (fun h => absurd h hok) (fun _ => rfl)
/-! #### read -/
theorem rn_numF : ∀ (f : Nat) (i : Nat) (n acc : Int) (rest : List Int), f + i = 7 → 0 ≤ n → n < 2 ^ (7 * (f + 1)) → (0 < i → 0 < n) → rn (numF f n ++ rest) i acc = (acc + n * 2 ^ (7 * i), rest, 0) := by
  intro f
  induction f with
  | zero =>
    intro i n acc rest hi h0 h1 hp
    have h1' : n < 128 := by simpa using h1
    show rn (n :: rest) i acc = _
    unfold rn
    rw [if_neg (by omega), if_neg (fun h => by have := hp h.2; omega), if_pos h1']
  | succ f ih =>
    intro i n acc rest hi h0 h1 hp
    unfold numF
    by_cases c : n < 128
    · rw [if_pos c]
      show rn (n :: rest) i acc = _
      unfold rn
      rw [if_neg (by omega), if_neg (fun h => by have := hp h.2; omega), if_pos c]
    · rw [if_neg c]
      show rn ((n % 128 + 128) :: (numF f (n / 128) ++ rest)) i acc = _
      have hp2 : (2 : Int) ^ (7 * (f + 1 + 1)) = 128 * 2 ^ (7 * (f + 1)) := by rw [show 7 * (f + 1 + 1) = 7 + 7 * (f + 1) by omega, Int.pow_add]; rfl
      have h1' : n / 128 < 2 ^ (7 * (f + 1)) := by rw [hp2] at h1; omega
      have hpe : (2 : Int) ^ (7 * (i + 1)) = 128 * 2 ^ (7 * i) := by rw [show 7 * (i + 1) = 7 + 7 * i by omega, Int.pow_add]; rfl
      unfold rn
      rw [if_neg (by omega), if_neg (fun h => by omega), if_neg (by omega), ih (i + 1) (n / 128) _ rest (by omega) (by omega) h1' (fun _ => by omega)]
      congr 1
      rw [hpe, show n % 128 + 128 - 128 = n % 128 by omega, Int.add_assoc, ← Int.mul_assoc, ← Int.add_mul, show n % 128 + n / 128 * 128 = n by omega]
theorem numF_bytes : ∀ (f : Nat) (n : Int), 0 ≤ n → n < 2 ^ (7 * (f + 1)) → Bytes (numF f n) := by
  intro f
  induction f with
  | zero =>
    intro n h0 h1 x hx
    have h1' : n < 128 := by simpa using h1
    rw [show x = n by simpa [numF] using hx]
    omega
  | succ f ih =>
    intro n h0 h1 x hx
    unfold numF at hx
    by_cases c : n < 128
    · rw [if_pos c] at hx
      rw [show x = n by simpa using hx]
      omega
    · rw [if_neg c] at hx
      have hp2 : (2 : Int) ^ (7 * (f + 1 + 1)) = 128 * 2 ^ (7 * (f + 1)) := by rw [show 7 * (f + 1 + 1) = 7 + 7 * (f + 1) by omega, Int.pow_add]; rfl
      rcases List.mem_cons.1 hx with e | e
      · omega
      · exact ih (n / 128) (by omega) (by rw [hp2] at h1; omega) x e
theorem numF7 (n : Int) (h0 : 0 ≤ n) (h1 : n ≤ 1114111) : Bytes (numF 7 n) := numF_bytes 7 n h0 (Int.lt_of_le_of_lt h1 (by decide))
theorem RNum_one (n : Int) (h0 : 0 ≤ n) (h1 : n ≤ 1114111) (rest : List Int) (hr : Bytes rest) : Ev (fun k => codec_Reader_Number.f k (numF 7 n ++ rest) 0) (n, rest, 0) := by
  refine ev_eq (RNum_ok _ (Bytes.append (numF7 n h0 h1) hr)) ?_
  rw [rn_numF 7 0 n 0 rest rfl h0 (Int.lt_of_le_of_lt h1 (by decide)) (fun h => absurd h (by omega))]
  simp
theorem one_bytes (r : S55) (h : ROk r) : Bytes (oneR r) := by
  have hr := h.ok.rng
  have h0 := h.n0
  have h1 := h.n1
  unfold oneR
  exact Bytes.append (numF7 _ (by omega) (by omega)) (Bytes.append (numF7 _ (by omega) (by omega)) (Bytes.append (numF7 _ (by omega) (by omega)) (Bytes.append (numF7 _ (by omega) (by omega)) (numF7 _ (by omega) (by omega)))))
theorem flat_bytes : ∀ (o : List S55), (∀ r ∈ o, ROk r) → Bytes (flatR o)
  | [], _ => by intro x hx; simp [flatR] at hx
  | r :: o, h => by
    rw [flat_cons]
    exact Bytes.append (one_bytes r (h r (by simp))) (flat_bytes o (fun x hx => h x (by simp [hx])))
theorem run_one (r : S55) (h : ROk r) (bs : List Int) (hb : Bytes bs) : Ev (fun k => cell_run.f k (oneR r ++ bs) 0) (r.f0, r.f1.f0, r.f1.f1.f0, r.f1.f1.f1, r.f1.f1.f2, bs, 0) := by
  have hr := h.ok.rng
  have h0 := h.n0
  have h1 := h.n1
  have b4 := Bytes.append (numF7 r.f1.f1.f2 (by omega) (by omega)) hb
  have b3 := Bytes.append (numF7 r.f1.f1.f1 (by omega) (by omega)) b4
  have b2 := Bytes.append (numF7 r.f1.f1.f0 (by omega) (by omega)) b3
  have b1 := Bytes.append (numF7 r.f1.f0 (by omega) (by omega)) b2
  unfold cell_run.f oneR
  simp only [List.append_assoc]
  refine ev_bind (RNum_one r.f0 (by omega) (by omega) _ b1) ?_
  refine ev_bind (RNum_one r.f1.f0 (by omega) (by omega) _ b2) ?_
  refine ev_bind (RNum_one r.f1.f1.f0 (by omega) (by omega) _ b3) ?_
  refine ev_bind (RNum_one r.f1.f1.f1 (by omega) (by omega) _ b4) ?_
  refine ev_bind (RNum_one r.f1.f1.f2 (by omega) (by omega) _ hb) ?_
  simp only [if_neg (show ¬ r.f1.f0 > 1114111 by omega)]
  exact ev_eq (ev_some _) (by rw [show wrap32 r.f1.f0 = r.f1.f0 by unfold wrap32; omega])
theorem Rd_l1 (N : Int) (A : List S53) (x : S53) (n : Nat) (hA : A.length + n ≤ 100) (bs : List Int) (r : List S53 × List Int × Int) (next : Ev (fun k => cell_Read.l0 k N (A ++ List.replicate n x) bs 0) r) : ∀ (d j : Nat), n - j = d → j ≤ n → Ev (fun k => cell_Read.l1 k N (A ++ List.replicate j x) (n : Int) (j : Int) bs 0 (n : Int) x.f0 x.f1.f0 x.f1.f1 x.f1.f2) r := by
  intro d
  induction d with
  | zero =>
    intro j hd hj
    obtain rfl : j = n := by omega
    apply ev_succ
    simp only [cell_Read.l1, if_neg (show ¬ (j : Int) < (j : Int) by omega)]
    exact next
  | succ d ih =>
    intro j hd hj
    have hw : wrap64 ((j : Int) + 1) = ((j + 1 : Nat) : Int) := by rw [w64 (by omega) (by omega)]; omega
    have h := ih (j + 1) (by omega) (by omega)
    rw [List.replicate_succ', ← List.append_assoc] at h
    apply ev_succ
    simp only [cell_Read.l1, if_pos (show (j : Int) < (n : Int) by omega), hw]
    simp only [if_pos (show (A ++ List.replicate j x).length < 4398046511104 by rw [List.length_append, List.length_replicate]; omega)]
    exact h
theorem last_at (A : List S53) (h : 0 < A.length) : A.getLast? = some (A[A.length - 1]) := by
  rw [List.getLast?_eq_getElem?, List.getElem?_eq_getElem (by omega)]
theorem Rd_step (N : Nat) (hN : N ≤ 100) (A : List S53) (x : S53) (n : Nat) (h0 : 1 ≤ n) (hA : A.length + n ≤ N) (hx : okk x) (hlast : A.getLast? ≠ some x) (bs : List Int) (hb : Bytes bs) (r : List S53 × List Int × Int) (next : Ev (fun k => cell_Read.l0 k (N : Int) (A ++ List.replicate n x) bs 0) r) : Ev (fun k => cell_Read.l0 k (N : Int) A (oneR ⟨(n : Int), x⟩ ++ bs) 0) r := by
  have hw : wrap64 ((N : Int) - (A.length : Int)) = (N : Int) - (A.length : Int) := w64 (by omega) (by omega)
  have go : Ev (fun k => cell_Read.j1 k (N : Int) A false bs 0 (n : Int) x.f0 x.f1.f0 x.f1.f1 x.f1.f2) r := by
    apply ev_succ
    simp only [cell_Read.j1, Bool.false_eq_true, if_false]
    have h := Rd_l1 (N : Int) A x n (by omega) bs r next n 0 (by omega) (by omega)
    simpa using h
  apply ev_succ
  simp only [cell_Read.l0, if_pos (show (A.length : Int) < (N : Int) by omega)]
  refine ev_bind (run_one ⟨(n : Int), x⟩ ⟨by show (1 : Int) ≤ (n : Int); omega, by show (n : Int) ≤ 100; omega, hx⟩ bs hb) ?_
  simp only [codec_Reader_Err.f, Option.bind_some, if_true, if_neg (show ¬ (n : Int) = 0 by omega), hw, if_neg (show ¬ (n : Int) > (N : Int) - (A.length : Int) by omega)]
  refine ev_bind (CRight_ev _ _ _ _) ?_
  rw [show decide (okc x.f0 ∧ okp x.f1.f0 x.f1.f1 x.f1.f2) = true from decide_eq_true hx]
  simp only [if_true]
  by_cases c : (A.length : Int) > 0
  · have hwl : wrap64 ((A.length : Int) - 1) = ((A.length - 1 : Nat) : Int) := by rw [w64 (by omega) (by omega)]; omega
    have hne : A[A.length - 1]'(by omega) ≠ x := fun e => hlast (by rw [last_at A (by omega), e])
    simp only [if_pos c, hwl, if_pos (show (0 : Int) ≤ ((A.length - 1 : Nat) : Int) by omega), if_pos (show ((A.length - 1 : Nat) : Int) < (A.length : Int) by omega), rd53 A (A.length - 1) (by omega), eqc_ne hne]
    exact go
  · simp only [if_neg c]
    exact go
theorem rep_last (A : List S53) (x y : S53) (n : Nat) (hn : 1 ≤ n) (hxy : x ≠ y) : (A ++ List.replicate n x).getLast? ≠ some y := by
  obtain ⟨m, rfl⟩ : ∃ m, n = m + 1 := ⟨n - 1, by omega⟩
  rw [List.replicate_succ', ← List.append_assoc, List.getLast?_append]
  simp [hxy]
theorem Rd_all (N : Nat) (hN : N ≤ 100) (rest : List Int) (hrest : Bytes rest) : ∀ (t : List S53) (x : S53) (n : Nat) (A : List S53), 1 ≤ n → A.length + n + t.length = N → okk x → (∀ y ∈ t, okk y) → A.getLast? ≠ some x → Ev (fun k => cell_Read.l0 k (N : Int) A (flatR (rfc t x n) ++ rest) 0) (A ++ (List.replicate n x ++ t), rest, 0) := by
  intro t
  induction t with
  | nil =>
    intro x n A h0 hA hx ht hl
    have e : flatR (rfc [] x n) ++ rest = oneR ⟨(n : Int), x⟩ ++ rest := by simp [rfc, flatR]
    rw [e]
    refine Rd_step N hN A x n h0 (by omega) hx hl rest hrest _ ?_
    simp only [List.length_nil] at hA
    apply ev_succ
    simp only [cell_Read.l0, if_neg (show ¬ ((A ++ List.replicate n x).length : Int) < (N : Int) by rw [List.length_append, List.length_replicate]; omega)]
    exact ev_eq (ev_some _) (by simp)
  | cons y t ih =>
    intro x n A h0 hA hx ht hl
    simp only [List.length_cons] at hA
    have hty : ∀ z ∈ t, okk z := fun z hz => ht z (by simp [hz])
    unfold rfc
    by_cases c : x = y
    · subst c
      rw [if_pos rfl]
      have h := ih x (n + 1) A (by omega) (by omega) hx hty hl
      rw [List.replicate_succ', List.append_assoc, List.singleton_append] at h
      exact h
    · rw [if_neg c, flat_cons, List.append_assoc]
      have hoy := ht y (by simp)
      refine Rd_step N hN A x n h0 (by omega) hx hl _ (Bytes.append (flat_bytes _ (rfc_ok t y 1 (by omega) (by omega) hoy hty).1) hrest) _ ?_
      have h := ih y 1 (A ++ List.replicate n x) (by omega) (by rw [List.length_append, List.length_replicate]; omega) hoy hty (rep_last A x y n h0 c)
      rw [List.append_assoc] at h
      exact h
theorem Rd_ev (l : List S53) (hl : l.length ≤ 100) (hok : ∀ y ∈ l, okk y) (rest : List Int) (hrest : Bytes rest) : Ev (fun k => cell_Read.f k (flatR (rf l) ++ rest) 0 (l.length : Int)) (l, rest, 0) := by
  unfold cell_Read.f
  cases l with
  | nil =>
    apply ev_succ
    simp only [cell_Read.l0, List.length_nil, Int.ofNat_zero, Int.natCast_zero, Int.lt_irrefl, if_false]
    exact ev_some _
  | cons x t =>
    exact Rd_all (x :: t).length hl rest hrest t x 1 [] (by omega) (by simp; omega) (hok x (by simp)) (fun z hz => hok z (by simp [hz])) (by simp)
/-! #### the law -/
theorem Law_no (l : List S53) (o : List Int) (hl : l.length ≤ 100) (hok : ¬ ∀ y ∈ l, okk y) : ∀ (d i : Nat), l.length - i = d → i ≤ l.length → Ev (fun k => batonlaw09_CellBack.l0 k l o false (i : Int)) true := by
  intro d
  induction d with
  | zero =>
    intro i hd hi
    obtain rfl : i = l.length := by omega
    apply ev_succ
    simp only [batonlaw09_CellBack.l0, if_neg (show ¬ ((l.length : Int) < (l.length : Int)) by omega), codec_NewWriter.f, Option.bind_some]
    refine ev_bind (Wr_no l hl hok) ?_
    exact ev_some _
  | succ d ih =>
    intro i hd hi
    have hw : wrap64 ((i : Int) + 1) = ((i + 1 : Nat) : Int) := by rw [w64 (by omega) (by omega)]; omega
    apply ev_succ
    simp only [batonlaw09_CellBack.l0, if_pos (show (i : Int) < (l.length : Int) by omega), Bool.false_eq_true, if_false, hw]
    exact ih (i + 1) (by omega) (by omega)
theorem Law_yes (l : List S53) (o : List Int) (hl : l.length ≤ 100) (ho : o.length ≤ 50) (hob : Bytes o) (hw3 : ∀ x ∈ l, WF53 x) : ∀ (d i : Nat), l.length - i = d → i ≤ l.length → (∀ y ∈ l.take i, okk y) → Ev (fun k => batonlaw09_CellBack.l0 k l o true (i : Int)) true := by
  intro d
  induction d with
  | zero =>
    intro i hd hi hok
    obtain rfl : i = l.length := by omega
    rw [List.take_length] at hok
    have hfl := flat_len (rf l)
    have hrl := (rf_ok l hl hok).2
    apply ev_succ
    simp only [batonlaw09_CellBack.l0, if_neg (show ¬ ((l.length : Int) < (l.length : Int)) by omega), codec_NewWriter.f, Option.bind_some, if_true]
    refine ev_bind (Wr_yes l hl hok) ?_
    simp only [Bytes_ok _ (show (flatR (rf l)).length < 1000000000 by omega), Option.bind_some, List.nil_append, List.length_nil, Nat.zero_add]
    simp only [if_pos (show (flatR (rf l)).length < 140737488355328 by omega), if_pos (show (flatR (rf l)).length + o.length < 140737488355328 by omega), NewR_ok (flatR (rf l) ++ o) (by rw [List.length_append]; omega), Option.bind_some]
    refine ev_bind (Rd_ev l hl hok o hob) ?_
    simp only [if_true]
    refine ev_bind (RB_ev l hl hok) ?_
    refine ev_bind (Same_ev _ _ (by omega)) ?_
    simp only [decide_true, if_true, codec_Reader_Err.f, codec_Reader_Left.f, Option.bind_some]
    refine ev_bind (CSame_ev l (by omega)) ?_
    exact ev_some _
  | succ d ih =>
    intro i hd hi hok
    have hlt : i < l.length := by omega
    have hw : wrap64 ((i : Int) + 1) = ((i + 1 : Nat) : Int) := by rw [w64 (by omega) (by omega)]; omega
    have hc := bounds_i32 (hw3 l[i] (List.getElem_mem hlt)).1
    apply ev_succ
    simp only [batonlaw09_CellBack.l0, if_pos (show (i : Int) < (l.length : Int) by omega), if_true, if_pos (show (0 : Int) ≤ (i : Int) by omega), rd53 l i hlt, hw, RRight_f l[i].f0 l[i].f1.f0 l[i].f1.f1 l[i].f1.f2 hc.1 (by omega), Option.bind_some]
    by_cases c : okk l[i]
    · rw [show decide (okc l[i].f0 ∧ okp l[i].f1.f0 l[i].f1.f1 l[i].f1.f2) = true from decide_eq_true c]
      refine ih (i + 1) (by omega) (by omega) (fun y hy => ?_)
      rw [← List.take_append_getElem hlt] at hy
      rcases List.mem_append.1 hy with e | e
      · exact hok y e
      · rw [List.mem_singleton.1 e]; exact c
    · rw [show decide (okc l[i].f0 ∧ okp l[i].f1.f0 l[i].f1.f1 l[i].f1.f2) = false from decide_eq_false c]
      exact Law_no l o hl (fun h => c (h _ (List.getElem_mem hlt))) d (i + 1) (by omega) (by omega)
theorem CellBack : batonlaw09_CellBack.Pure := by
  intro l o hl ho
  refine Ev.rounds ?_
  unfold batonlaw09_CellBack.f
  refine ev_bind awake09 ?_
  simp only [if_true]
  have skip : Ev (fun k => batonlaw09_CellBack.j0 k l o true) true := by
    apply ev_succ
    simp only [batonlaw09_CellBack.j0, if_true]
    exact ev_some _
  by_cases c1 : (l.length : Int) > 100
  · simp only [if_pos c1]
    exact skip
  · simp only [if_neg c1]
    by_cases c2 : (o.length : Int) > 50
    · rw [decide_eq_true c2]
      exact skip
    · rw [decide_eq_false c2]
      apply ev_succ
      simp only [batonlaw09_CellBack.j0, Bool.false_eq_true, if_false]
      exact Law_yes l o (by omega) (by omega) (bytes_of ho.2) hl.2 l.length 0 (by omega) (by omega) (by simp)

end Go.Proofs.Ytkckojgjkmcokaa.Pure
