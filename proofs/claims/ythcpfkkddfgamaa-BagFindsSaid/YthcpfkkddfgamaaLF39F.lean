/- Plain lemmas on the functions of this family (BagFinds): what each loop comes to. No condition. -/
import Derived.Test.YthcpfkkddfgamaaBase
import Derived.Test.YthcpfkkddfgamaaPF39Fx
namespace Go.Proofs.Ythcpfkkddfgamaa.LF39F
open Go.RowKit Go.Proofs.Ythcpfkkddfgamaa.Base Go.Proofs.YthcpfkkddfgamaaW.PrintWords Go.Proofs.YthcpfkkddfgamaaW.PrintMore Go.Proofs.Ythcpfkkddfgamaa.PF39F
set_option linter.unusedVariables false
set_option linter.unusedSimpArgs false

/-! ### bag -/
theorem rd50 (l : List S50) (i : Nat) (h : i < l.length) : rd_T50 l (i : Int) = l[i] := by
  unfold rd_T50
  simp [List.getD_eq_getElem?_getD, h]
theorem rd108 (l : List S108) (i : Nat) (h : i < l.length) : rd_T108 l (i : Int) = l[i] := by
  unfold rd_T108
  simp [List.getD_eq_getElem?_getD, h]
def cv (t : S50) : S108 := ⟨t.f0, t.f1, t.f2, t.f3⟩
theorem Ref_l0 (l : List S50) (hl : l.length ≤ 1000000) : ∀ (d i : Nat), l.length - i = d → i ≤ l.length → Ev (fun k => batonlaw39_Ref.l0 k l ((l.take i).map cv) (i : Int)) (l.map cv) := by
  intro d
  induction d with
  | zero =>
    intro i hd hi
    obtain rfl : i = l.length := by omega
    apply ev_succ
    simp only [batonlaw39_Ref.l0, if_neg (show ¬ ((l.length : Int) < (l.length : Int)) by omega)]
    exact ev_eq (ev_some _) (by rw [List.take_length])
  | succ d ih =>
    intro i hd hi
    have hlt : i < l.length := by omega
    have hw : wrap64 ((i : Int) + 1) = ((i + 1 : Nat) : Int) := by rw [w64 (by omega) (by omega)]; omega
    have hn : ((l.take i).map cv).length < 2932031007402 := by simp; omega
    have h := ih (i + 1) (by omega) (by omega)
    rw [← List.take_append_getElem hlt, List.map_append] at h
    apply ev_succ
    simp only [batonlaw39_Ref.l0, if_pos (show (i : Int) < (l.length : Int) by omega), if_pos (show (0 : Int) ≤ (i : Int) by omega), if_pos hn, rd50 l i hlt, hw]
    exact h
theorem Ref_ev (l : List S50) (hl : l.length ≤ 1000000) : Ev (fun k => batonlaw39_Ref.f k l) (l.map cv) := by
  unfold batonlaw39_Ref.f
  exact Ref_l0 l hl l.length 0 (by omega) (by omega)
def Few (l : List S50) : Prop := ∀ x ∈ l, (x.f3.length : Int) ≤ 40
instance (l : List S50) : Decidable (Few l) := by unfold Few; infer_instance
theorem few_l0 (l : List S50) (hl : l.length ≤ 1000000) : ∀ (d i : Nat), l.length - i = d → i ≤ l.length → Ev (fun k => batonlaw39_few.l0 k l (i : Int)) (decide (Few (l.drop i))) := by
  intro d
  induction d with
  | zero =>
    intro i hd hi
    obtain rfl : i = l.length := by omega
    apply ev_succ
    simp only [batonlaw39_few.l0, if_neg (show ¬ ((l.length : Int) < (l.length : Int)) by omega)]
    exact ev_eq (ev_some _) (by simp [Few])
  | succ d ih =>
    intro i hd hi
    have hlt : i < l.length := by omega
    have hw : wrap64 ((i : Int) + 1) = ((i + 1 : Nat) : Int) := by rw [w64 (by omega) (by omega)]; omega
    have hF : Few (l.drop i) ↔ ((l[i].f3.length : Int) ≤ 40 ∧ Few (l.drop (i + 1))) := by
      rw [List.drop_eq_getElem_cons hlt]
      unfold Few
      exact List.forall_mem_cons
    apply ev_succ
    simp only [batonlaw39_few.l0, if_pos (show (i : Int) < (l.length : Int) by omega), if_pos (show (0 : Int) ≤ (i : Int) by omega), rd50 l i hlt, hw]
    by_cases c : (l[i].f3.length : Int) > 40
    · simp only [if_pos c]
      exact ev_eq (ev_some _) (decide_eq_false (fun h => by have := (hF.1 h).1; omega)).symm
    · simp only [if_neg c]
      refine ev_eq (ih (i + 1) (by omega) (by omega)) ?_
      exact decide_eq_decide.2 ⟨fun h => hF.2 ⟨by omega, h⟩, fun h => (hF.1 h).2⟩
theorem few_ev (l : List S50) : Ev (fun k => batonlaw39_few.f k l) (decide (l.length ≤ 40 ∧ Few l)) := by
  unfold batonlaw39_few.f
  by_cases c : (l.length : Int) > 40
  · simp only [if_pos c]
    exact ev_eq (ev_some _) (decide_eq_false (fun h => by have := h.1; omega)).symm
  · simp only [if_neg c]
    refine ev_eq (few_l0 l (by omega) l.length 0 (by omega) (by omega)) (decide_eq_decide.2 ?_)
    rw [List.drop_zero]
    exact ⟨fun h => ⟨by omega, h⟩, fun h => h.2⟩
theorem Few_len {l : List S50} (h : Few l) {i : Nat} (hi : i < l.length) : l[i].f3.length ≤ 40 := by
  have := h _ (List.getElem_mem hi)
  omega
theorem Put_l0 (l x : List S50) (hl : l.length ≤ 1000) (hx : x.length ≤ 1000) (hF : Few x) : ∀ (d i : Nat), x.length - i = d → i ≤ x.length → Ev (fun k => bag_Put.l0 k (l ++ x.take i) x (x.length : Int) (i : Int)) (l ++ x) := by
  intro d
  induction d with
  | zero =>
    intro i hd hi
    obtain rfl : i = x.length := by omega
    apply ev_succ
    simp only [bag_Put.l0, if_neg (show ¬ ((x.length : Int) < (x.length : Int)) by omega)]
    exact ev_eq (ev_some _) (by rw [List.take_length])
  | succ d ih =>
    intro i hd hi
    have hlt : i < x.length := by omega
    have hw : wrap64 ((i : Int) + 1) = ((i + 1 : Nat) : Int) := by rw [w64 (by omega) (by omega)]; omega
    have hn : (l ++ x.take i).length < 2932031007402 := by simp; omega
    have h40 := Few_len hF hlt
    have h := ih (i + 1) (by omega) (by omega)
    rw [← List.take_append_getElem hlt, ← List.append_assoc] at h
    apply ev_succ
    simp only [bag_Put.l0, if_pos (show (i : Int) < (x.length : Int) by omega), if_pos (show (0 : Int) ≤ (i : Int) by omega), rd50 x i hlt, hw, slices_Clone_byte_byte.f, if_pos (show (x[i]).f3.length < 140737488355328 by omega), Option.bind_some, if_pos hn]
    exact h
theorem Put_ev (l x : List S50) (hl : l.length ≤ 1000) (hx : x.length ≤ 1000) (hF : Few x) : Ev (fun k => bag_Put.f k l x) (l ++ x) := by
  unfold bag_Put.f
  have := Put_l0 l x hl hx hF x.length 0 (by omega) (by omega)
  rw [List.take_zero, List.append_nil] at this
  exact ev_bind1 (show _ = some l from if_pos (show l.length < 2932031007402 by omega)) this
theorem awake39 : Ev (fun k => batonlaw39_awake.f k) true := Ev.of (fun k => batonlaw39_awake.mono k) (k := 8) (by decide +kernel)

end Go.Proofs.Ythcpfkkddfgamaa.LF39F
