/- The law CellRuns, of plain lists: the runs of any cells are these cells, none is empty, no two side by side are alike; any runs' cells are what the page says. No condition beside the sizes that the row itself gives. -/
import Derived.Test.YtkckojgjkmcokaaLF09
namespace Go.Proofs.Ytkckojgjkmcokaa.Pure
open Go.RowKit Go.Proofs.Ytkckojgjkmcokaa.Base Go.Proofs.YtkckojgjkmcokaaW.PrintWords Go.Proofs.YtkckojgjkmcokaaW.PrintMore Go.Proofs.Ytkckojgjkmcokaa.PF09
set_option linter.unusedVariables false
set_option linter.unusedSimpArgs false
open Go.Proofs.Ytkckojgjkmcokaa.LF09

theorem rd55 (l : List S55) (i : Nat) (h : i < l.length) : rd_T55 l (i : Int) = l[i] := by
  unfold rd_T55
  simp [List.getD_eq_getElem?_getD, h]
/-- The cells of runs. -/
def exp (o : List S55) : List S53 := o.flatMap (fun r => List.replicate r.f0.toNat r.f1)
theorem exp_nil : exp [] = [] := rfl
theorem exp_cons (r : S55) (o : List S55) : exp (r :: o) = List.replicate r.f0.toNat r.f1 ++ exp o := by simp [exp]
theorem exp_app (a b : List S55) : exp (a ++ b) = exp a ++ exp b := by simp [exp]
theorem exp_one (r : S55) : exp [r] = List.replicate r.f0.toNat r.f1 := by simp [exp]
theorem exp_len : ∀ (o : List S55), (∀ r ∈ o, 1 ≤ r.f0) → o.length ≤ (exp o).length
  | [], _ => by simp
  | r :: o, h => by
    have h1 := h r (by simp)
    have h2 := exp_len o (fun x hx => h x (by simp [hx]))
    rw [exp_cons, List.length_append, List.length_replicate, List.length_cons]
    omega
def Dist (L : List S53) : Prop := ∀ (j : Nat) (a : S53), L[j]? = some a → L[j + 1]? ≠ some a
theorem Dist.push {L : List S53} (h : Dist L) {c : S53} (hc : L.getLast? ≠ some c) : Dist (L ++ [c]) := by
  intro j a h1 h2
  by_cases hj : j + 1 < L.length
  · rw [List.getElem?_append_left (by omega)] at h1 h2
    exact h j a h1 h2
  · by_cases hj2 : j + 1 = L.length
    · rw [List.getElem?_append_left (by omega)] at h1
      rw [hj2, List.getElem?_append_right (by omega)] at h2
      simp at h2
      subst h2
      apply hc
      rw [List.getLast?_eq_getElem?, ← hj2]
      exact h1
    · rw [List.getElem?_append_right (by omega)] at h2
      have : (j + 1 - L.length) ≠ 0 := by omega
      obtain ⟨q, hq⟩ := Nat.exists_eq_succ_of_ne_zero this
      rw [hq] at h2
      simp at h2
structure Inv (o : List S55) (pre : List S53) : Prop where
  ex : exp o = pre
  pos : ∀ r ∈ o, 1 ≤ r.f0
  dist : Dist (o.map (·.f1))
theorem Runs_l0 (l : List S53) (hl : l.length ≤ 100) : ∀ (d i : Nat) (o : List S55), l.length - i = d → i ≤ l.length → Inv o (l.take i) → ∃ r, Ev (fun k => cell_Runs.l0 k o l (l.length : Int) (i : Int)) r ∧ Inv r l := by
  intro d
  induction d with
  | zero =>
    intro i o hd hi hI
    obtain rfl : i = l.length := by omega
    refine ⟨o, ?_, by rwa [List.take_length] at hI⟩
    apply ev_succ
    simp only [cell_Runs.l0, if_neg (show ¬ ((l.length : Int) < (l.length : Int)) by omega)]
    exact ev_some _
  | succ d ih =>
    intro i o hd hi hI
    have hlt : i < l.length := by omega
    have hw : wrap64 ((i : Int) + 1) = ((i + 1 : Nat) : Int) := by rw [w64 (by omega) (by omega)]; omega
    have hol : o.length ≤ i := by
      have h1 := exp_len o hI.pos
      rw [hI.ex, List.length_take] at h1
      omega
    have htk : l.take (i + 1) = l.take i ++ [l[i]] := by rw [List.take_append_getElem hlt]
    have push : (o.map (·.f1)).getLast? ≠ some l[i] → ∃ r, Ev (fun k => cell_Runs.l0 k (o ++ [(⟨1, l[i]⟩ : S55)]) l (l.length : Int) ((i + 1 : Nat) : Int)) r ∧ Inv r l := fun hne => by
      refine ih (i + 1) _ (by omega) (by omega) ⟨?_, ?_, ?_⟩
      · rw [exp_app, hI.ex, exp_one, htk]
        rfl
      · intro r hr
        rcases List.mem_append.1 hr with hr | hr
        · exact hI.pos r hr
        · simp at hr
          subst hr
          exact Int.le_refl 1
      · rw [List.map_append]
        exact hI.dist.push hne
    rcases List.eq_nil_or_concat o with rfl | ⟨o1, r, hr⟩
    · obtain ⟨q, hq, hq2⟩ := push (by simp)
      refine ⟨q, ?_, hq2⟩
      apply ev_succ
      simp only [cell_Runs.l0, if_pos (show (i : Int) < (l.length : Int) by omega), if_pos (show (0 : Int) ≤ (i : Int) by omega), List.length_nil, if_neg (show ¬ ((0 : Nat) : Int) > 0 by decide), if_pos (show (0 : Nat) < 3518437208883 by decide), rd53 l i hlt, hw]
      exact hq
    · rw [List.concat_eq_append] at hr
      subst hr
      have hlen : (o1 ++ [r]).length = o1.length + 1 := by simp
      have hw1 : wrap64 (((o1.length + 1 : Nat) : Int) - 1) = (o1.length : Int) := by rw [w64 (by omega) (by omega)]; omega
      have hrd : rd_T55 (o1 ++ [r]) (o1.length : Int) = r := by rw [rd55 _ _ (by simp)]; simp
      have hex := hI.ex
      rw [exp_app, exp_one] at hex
      have hr0 := hI.pos r (by simp)
      have hri : r.f0 ≤ 100 := by
        have := congrArg List.length hex
        rw [List.length_append, List.length_replicate, List.length_take] at this
        omega
      have hw2 : wrap64 (r.f0 + 1) = r.f0 + 1 := w64 (by omega) (by omega)
      have hset : (o1 ++ [r]).set o1.length (⟨r.f0 + 1, r.f1⟩ : S55) = o1 ++ [⟨r.f0 + 1, r.f1⟩] := by simp
      have hlim : o1.length + 1 < 3518437208883 := by
        have := hlen ▸ hol
        omega
      by_cases hc : r.f1 = l[i]
      · obtain ⟨q, hq, hq2⟩ := ih (i + 1) (o1 ++ [⟨r.f0 + 1, r.f1⟩]) (by omega) (by omega) ⟨by
            rw [exp_app, exp_one, htk, ← hex, List.append_assoc, ← hc]
            congr 1
            show List.replicate (r.f0 + 1).toNat r.f1 = _
            rw [show (r.f0 + 1).toNat = r.f0.toNat + 1 by omega, List.replicate_succ'], by
            intro x hx
            rcases List.mem_append.1 hx with hx | hx
            · exact hI.pos x (by simp [hx])
            · simp at hx
              subst hx
              show 1 ≤ r.f0 + 1
              omega, by
            have := hI.dist
            simpa using this⟩
        refine ⟨q, ?_, hq2⟩
        apply ev_succ
        simp only [cell_Runs.l0, if_pos (show (i : Int) < (l.length : Int) by omega), if_pos (show (0 : Int) ≤ (i : Int) by omega), hlen, if_pos (show ((o1.length + 1 : Nat) : Int) > 0 by omega), hw1, if_pos (show (0 : Int) ≤ (o1.length : Int) by omega), if_pos (show (o1.length : Int) < ((o1.length + 1 : Nat) : Int) by omega), hrd, rd53 l i hlt, if_pos ((eqc r.f1 l[i]).2 hc), hw, hw2, Int.toNat_natCast]
        rw [show (⟨r.f1.f0, (⟨r.f1.f1.f0, r.f1.f1.f1, r.f1.f1.f2⟩ : S51)⟩ : S53) = r.f1 from rfl, hset]
        exact hq
      · obtain ⟨q, hq, hq2⟩ := push (by simpa using hc)
        refine ⟨q, ?_, hq2⟩
        apply ev_succ
        simp only [cell_Runs.l0, if_pos (show (i : Int) < (l.length : Int) by omega), if_pos (show (0 : Int) ≤ (i : Int) by omega), hlen, if_pos (show ((o1.length + 1 : Nat) : Int) > 0 by omega), hw1, if_pos (show (0 : Int) ≤ (o1.length : Int) by omega), if_pos (show (o1.length : Int) < ((o1.length + 1 : Nat) : Int) by omega), hrd, rd53 l i hlt, eqc_ne hc, Bool.false_eq_true, if_false, hw, if_pos hlim]
        exact hq
theorem Runs_ev (l : List S53) (hl : l.length ≤ 100) : ∃ r, Ev (fun k => cell_Runs.f k l) r ∧ Inv r l := by
  unfold cell_Runs.f
  exact Runs_l0 l hl l.length 0 [] (by omega) (by omega) ⟨by simp [exp], by simp, fun j a h => by simp at h⟩
theorem take_succ' {α : Type} (o : List α) (i : Nat) (h : i < o.length) : o.take (i + 1) = o.take i ++ [o[i]] := (List.take_append_getElem h).symm
/-! #### Cells -/
theorem Cells_l1 (o : List S55) (i : Nat) (n : Int) (c : S53) (p0 : Int) (hn : n ≤ 1000) (hi : i ≤ 1000) (out : List S53) (R : List S53) (next : Ev (fun k => cell_Cells.l0 k (out ++ List.replicate n.toNat c) o (o.length : Int) ((i + 1 : Nat) : Int)) R) (ho : out.length + n.toNat ≤ 1000000) :
    ∀ (d j : Nat), n.toNat - j = d → j ≤ n.toNat → Ev (fun k => cell_Cells.l1 k (out ++ List.replicate j c) o (o.length : Int) (i : Int) n (j : Int) p0 c.f0 c.f1.f0 c.f1.f1 c.f1.f2) R := by
  intro d
  induction d with
  | zero =>
    intro j hd hj
    obtain rfl : j = n.toNat := by omega
    have hw : wrap64 ((i : Int) + 1) = ((i + 1 : Nat) : Int) := by rw [w64 (by omega) (by omega)]; omega
    apply ev_succ
    simp only [cell_Cells.l1, if_neg (show ¬ (n.toNat : Int) < n by omega), hw]
    exact next
  | succ d ih =>
    intro j hd hj
    have hw : wrap64 ((j : Int) + 1) = ((j + 1 : Nat) : Int) := by rw [w64 (by omega) (by omega)]; omega
    apply ev_succ
    simp only [cell_Cells.l1, if_pos (show (j : Int) < n by omega), if_pos (show (out ++ List.replicate j c).length < 4398046511104 by rw [List.length_append, List.length_replicate]; omega), hw]
    have := ih (j + 1) (by omega) (by omega)
    rw [List.replicate_succ', ← List.append_assoc] at this
    exact this
theorem Cells_l0 (o : List S55) (hl : o.length ≤ 100) (hn : ∀ r ∈ o, r.f0 ≤ 100) (hs : (exp o).length ≤ 100000) : ∀ (d i : Nat), o.length - i = d → i ≤ o.length → Ev (fun k => cell_Cells.l0 k (exp (o.take i)) o (o.length : Int) (i : Int)) (exp o) := by
  intro d
  induction d with
  | zero =>
    intro i hd hi
    obtain rfl : i = o.length := by omega
    apply ev_succ
    simp only [cell_Cells.l0, if_neg (show ¬ ((o.length : Int) < (o.length : Int)) by omega)]
    exact ev_eq (ev_some _) (by rw [List.take_length])
  | succ d ih =>
    intro i hd hi
    have hlt : i < o.length := by omega
    have h1 := ih (i + 1) (by omega) (by omega)
    rw [take_succ' o i hlt, exp_app, exp_one] at h1
    have hle : (exp (o.take i)).length ≤ (exp o).length := by
      conv => rhs; rw [← List.take_append_drop i o, exp_app, List.length_append]
      omega
    have h2 := hn o[i] (List.getElem_mem hlt)
    apply ev_succ
    simp only [cell_Cells.l0, if_pos (show (i : Int) < (o.length : Int) by omega), if_pos (show (0 : Int) ≤ (i : Int) by omega), rd55 o i hlt]
    have h3 := Cells_l1 o i o[i].f0 o[i].f1 o[i].f0 (by omega) (by omega) (exp (o.take i)) (exp o) h1 (by omega) o[i].f0.toNat 0 (by omega) (by omega)
    rw [List.replicate_zero, List.append_nil] at h3
    exact h3
theorem Cells_ev (o : List S55) (hl : o.length ≤ 100) (hn : ∀ r ∈ o, r.f0 ≤ 100) (hs : (exp o).length ≤ 100000) : Ev (fun k => cell_Cells.f k o) (exp o) := by
  unfold cell_Cells.f
  exact Cells_l0 o hl hn hs o.length 0 (by omega) (by omega)
/-! #### the law -/
section
set_option linter.unusedSectionVars false
variable (l : List S53) (other o : List S55) (hl : l.length ≤ 100) (ho : other.length ≤ 20) (hI : Inv o l)
include hl ho hI
theorem exp_take_le (i : Nat) (hn : ∀ r ∈ other.take i, r.f0 ≤ 100) : (exp (other.take i)).length ≤ 100 * i := by
  clear hI
  induction i with
  | zero => simp [exp]
  | succ i ih =>
    by_cases hi : i < other.length
    · rw [take_succ' other i hi] at hn ⊢
      have h1 := ih (fun r hr => hn r (List.mem_append.2 (.inl hr)))
      have h2 := hn other[i] (List.mem_append.2 (.inr (List.mem_singleton.2 rfl)))
      rw [exp_app, exp_one, List.length_append, List.length_replicate]
      omega
    · rw [List.take_of_length_le (by omega)] at hn ⊢
      rw [List.take_of_length_le (by omega)] at ih
      have h1 := ih hn
      omega
theorem Law_l3 (i : Nat) (hi : i < other.length) (want : List S53) (at' : Int) (hw0 : want.length ≤ 100000) (hn : other[i].f0 ≤ 100) (next : Ev (fun k => batonlaw09_CellRuns.l2 k l other o at' (want ++ List.replicate other[i].f0.toNat other[i].f1) ((i + 1 : Nat) : Int)) true) :
    ∀ (d j : Nat), other[i].f0.toNat - j = d → j ≤ other[i].f0.toNat → Ev (fun k => batonlaw09_CellRuns.l3 k l other o at' (want ++ List.replicate j other[i].f1) (i : Int) (j : Int)) true := by
  intro d
  induction d with
  | zero =>
    intro j hd hj
    obtain rfl : j = other[i].f0.toNat := by omega
    have hw : wrap64 ((i : Int) + 1) = ((i + 1 : Nat) : Int) := by rw [w64 (by omega) (by omega)]; omega
    apply ev_succ
    simp only [batonlaw09_CellRuns.l3, if_pos (show (0 : Int) ≤ (i : Int) by omega), if_pos (show (i : Int) < (other.length : Int) by omega), rd55 other i hi, if_neg (show ¬ (other[i].f0.toNat : Int) < other[i].f0 by omega), hw]
    exact next
  | succ d ih =>
    intro j hd hj
    have hw : wrap64 ((j : Int) + 1) = ((j + 1 : Nat) : Int) := by rw [w64 (by omega) (by omega)]; omega
    apply ev_succ
    simp only [batonlaw09_CellRuns.l3, if_pos (show (0 : Int) ≤ (i : Int) by omega), if_pos (show (i : Int) < (other.length : Int) by omega), rd55 other i hi, if_pos (show (j : Int) < other[i].f0 by omega), if_pos (show (want ++ List.replicate j other[i].f1).length < 4398046511104 by rw [List.length_append, List.length_replicate]; omega), hw]
    have := ih (j + 1) (by omega) (by omega)
    rw [List.replicate_succ', ← List.append_assoc] at this
    exact this
theorem Law_l2 : ∀ (d i : Nat), other.length - i = d → i ≤ other.length → (∀ r ∈ other.take i, r.f0 ≤ 100) → Ev (fun k => batonlaw09_CellRuns.l2 k l other o (l.length : Int) (exp (other.take i)) (i : Int)) true := by
  intro d
  induction d with
  | zero =>
    intro i hd hi hn
    obtain rfl : i = other.length := by omega
    have h0 := exp_take_le l other o hl ho hI other.length hn
    rw [List.take_length] at hn h0 ⊢
    have h1 := exp_len o hI.pos
    rw [hI.ex] at h1
    have hno : ∀ r ∈ o, r.f0 ≤ 100 := fun r hr => by
      obtain ⟨a, b, rfl⟩ := List.append_of_mem hr
      have := congrArg List.length hI.ex
      rw [exp_app, exp_cons, List.length_append, List.length_append, List.length_replicate] at this
      omega
    have hc1 := Cells_ev o (by omega) hno (by rw [hI.ex]; omega)
    rw [hI.ex] at hc1
    have hc2 := Cells_ev other (by omega) hn (by omega)
    apply ev_succ
    simp only [batonlaw09_CellRuns.l2, if_neg (show ¬ ((other.length : Int) < (other.length : Int)) by omega), if_true]
    refine ev_bind hc1 (ev_bind (CSame_ev l (by omega)) ?_)
    simp only [if_true]
    exact ev_bind hc2 (ev_bind (CSame_ev _ (by omega)) (ev_some _))
  | succ d ih =>
    intro i hd hi hn
    have hlt : i < other.length := by omega
    have h0 := exp_take_le l other o hl ho hI i hn
    apply ev_succ
    simp only [batonlaw09_CellRuns.l2, if_pos (show (i : Int) < (other.length : Int) by omega), if_pos (show (0 : Int) ≤ (i : Int) by omega), rd55 other i hlt]
    by_cases hc : other[i].f0 > 100
    · simp only [if_pos hc]
      exact ev_eq (ev_some _) (by simp)
    · simp only [if_neg hc]
      have hn2 : ∀ r ∈ other.take (i + 1), r.f0 ≤ 100 := fun r hr => by
        rw [take_succ' other i hlt] at hr
        rcases List.mem_append.1 hr with hr | hr
        · exact hn r hr
        · simp at hr
          subst hr
          omega
      have h1 := ih (i + 1) (by omega) (by omega) hn2
      rw [take_succ' other i hlt, exp_app, exp_one] at h1
      have h3 := Law_l3 l other o hl ho hI i hlt (exp (other.take i)) (l.length : Int) (by omega) (by omega) h1 other[i].f0.toNat 0 (by omega) (by omega)
      rw [List.replicate_zero, List.append_nil] at h3
      exact h3
omit hI ho in
theorem Law_l1 (i : Nat) (hi : i < o.length) (hol : o.length ≤ 100) (A : Nat) (hp : 1 ≤ o[i].f0) (hA : A + o[i].f0.toNat ≤ l.length) (hg : ∀ j, j < o[i].f0.toNat → l[A + j]? = some o[i].f1) (next : Ev (fun k => batonlaw09_CellRuns.l0 k l other o ((A + o[i].f0.toNat : Nat) : Int) ((i + 1 : Nat) : Int)) true) :
    ∀ (d j : Nat), o[i].f0.toNat - j = d → j ≤ o[i].f0.toNat → Ev (fun k => batonlaw09_CellRuns.l1 k l other o (A : Int) (i : Int) (j : Int)) true := by
  intro d
  induction d with
  | zero =>
    intro j hd hj
    obtain rfl : j = o[i].f0.toNat := by omega
    apply ev_succ
    simp only [batonlaw09_CellRuns.l1, if_pos (show (0 : Int) ≤ (i : Int) by omega), if_pos (show (i : Int) < (o.length : Int) by omega), rd55 o i hi, if_neg (show ¬ (o[i].f0.toNat : Int) < o[i].f0 by omega), show wrap64 ((i : Int) + 1) = ((i + 1 : Nat) : Int) from by rw [w64 (by omega) (by omega)]; omega, show wrap64 ((A : Int) + o[i].f0) = ((A + o[i].f0.toNat : Nat) : Int) from by rw [w64 (by omega) (by omega)]; omega]
    exact next
  | succ d ih =>
    intro j hd hj
    have hlt : A + j < l.length := by omega
    have hget : l[A + j] = o[i].f1 := by
      have := hg j (by omega)
      rw [List.getElem?_eq_getElem hlt] at this
      exact Option.some.inj this
    apply ev_succ
    simp only [batonlaw09_CellRuns.l1, if_pos (show (0 : Int) ≤ (i : Int) by omega), if_pos (show (i : Int) < (o.length : Int) by omega), rd55 o i hi, if_pos (show (j : Int) < o[i].f0 by omega), show wrap64 ((A : Int) + (j : Int)) = ((A + j : Nat) : Int) from by rw [w64 (by omega) (by omega)]; omega, if_pos (show (0 : Int) ≤ ((A + j : Nat) : Int) by omega), if_pos (show ((A + j : Nat) : Int) < (l.length : Int) by omega), rd53 l _ hlt, hget, neqc_self, Bool.false_eq_true, if_false, show wrap64 ((j : Int) + 1) = ((j + 1 : Nat) : Int) from by rw [w64 (by omega) (by omega)]; omega]
    exact ih (j + 1) (by omega) (by omega)
theorem Law_l0 : ∀ (d i : Nat), o.length - i = d → i ≤ o.length → Ev (fun k => batonlaw09_CellRuns.l0 k l other o ((exp (o.take i)).length : Int) (i : Int)) true := by
  have hol := exp_len o hI.pos
  rw [hI.ex] at hol
  intro d
  induction d with
  | zero =>
    intro i hd hi
    obtain rfl : i = o.length := by omega
    apply ev_succ
    simp only [batonlaw09_CellRuns.l0, if_neg (show ¬ ((o.length : Int) < (o.length : Int)) by omega)]
    rw [List.take_length, hI.ex]
    exact Law_l2 l other o hl ho hI other.length 0 (by omega) (by omega) (by simp)
  | succ d ih =>
    intro i hd hi
    have hlt : i < o.length := by omega
    have hpos := hI.pos o[i] (List.getElem_mem hlt)
    have hdec : l = exp (o.take i) ++ (List.replicate o[i].f0.toNat o[i].f1 ++ exp (o.drop (i + 1))) := by
      rw [← exp_cons, List.getElem_cons_drop, ← exp_app, List.take_append_drop, hI.ex]
    have hlen := congrArg List.length hdec
    rw [List.length_append, List.length_append, List.length_replicate] at hlen
    have hw2 : wrap64 ((l.length : Int) - ((exp (o.take i)).length : Int)) = (l.length : Int) - ((exp (o.take i)).length : Int) := w64 (by omega) (by omega)
    have h1 : Ev (fun k => batonlaw09_CellRuns.j2 k l other o ((exp (o.take i)).length : Int) (i : Int) false) true := by
      apply ev_succ
      simp only [batonlaw09_CellRuns.j2, Bool.false_eq_true, if_false]
      have hn := ih (i + 1) (by omega) (by omega)
      rw [take_succ' o i hlt, exp_app, exp_one, List.length_append, List.length_replicate] at hn
      exact Law_l1 l other o hl i hlt (by omega) _ hpos (by omega) (fun j hj => by
        rw [hdec, List.getElem?_append_right (by omega), List.getElem?_append_left (by rw [List.length_replicate]; omega), Nat.add_sub_cancel_left, List.getElem?_replicate, if_pos hj]) hn o[i].f0.toNat 0 (by omega) (by omega)
    apply ev_succ
    simp only [batonlaw09_CellRuns.l0, if_pos (show (i : Int) < (o.length : Int) by omega), if_pos (show (0 : Int) ≤ (i : Int) by omega), rd55 o i hlt, if_neg (show ¬ o[i].f0 < 1 by omega), hw2, if_neg (show ¬ o[i].f0 > (l.length : Int) - ((exp (o.take i)).length : Int) by omega)]
    by_cases hc : (i : Int) > 0
    · have hw1 : wrap64 ((i : Int) - 1) = ((i - 1 : Nat) : Int) := by rw [w64 (by omega) (by omega)]; omega
      have hlt1 : i - 1 < o.length := by omega
      have hne : o[i].f1 ≠ o[i - 1].f1 := fun e => by
        refine hI.dist (i - 1) o[i - 1].f1 (by simp [hlt1]) ?_
        rw [show i - 1 + 1 = i by omega]
        simp [hlt, e]
      simp only [if_pos hc, hw1, if_pos (show (0 : Int) ≤ ((i - 1 : Nat) : Int) by omega), if_pos (show ((i - 1 : Nat) : Int) < (o.length : Int) by omega), rd55 o _ hlt1]
      rw [eqc_ne hne]
      exact h1
    · simp only [if_neg hc]
      exact h1
end
theorem CellRuns : batonlaw09_CellRuns.Pure := by
  intro l other _ _
  refine Ev.rounds ?_
  unfold batonlaw09_CellRuns.f
  refine ev_bind awake09 ?_
  simp only [if_true]
  have j0t : Ev (fun k => batonlaw09_CellRuns.j0 k l other true) true := by
    apply ev_succ
    simp only [batonlaw09_CellRuns.j0, if_true]
    exact ev_some _
  by_cases c : (l.length : Int) > 100
  · simp only [if_pos c]
    exact j0t
  · simp only [if_neg c]
    by_cases c2 : (other.length : Int) > 20
    · rw [decide_eq_true c2]
      exact j0t
    · rw [decide_eq_false c2]
      obtain ⟨o, h1, h2⟩ := Runs_ev l (by omega)
      apply ev_succ
      simp only [batonlaw09_CellRuns.j0, Bool.false_eq_true, if_false]
      refine ev_bind h1 ?_
      exact Law_l0 l other o (by omega) (by omega) h2 o.length 0 (by omega) (by omega)

end Go.Proofs.Ytkckojgjkmcokaa.Pure
