/- Plain lemmas on the functions of this family (TicketIssues): what each loop comes to. No condition. -/
import Derived.Test.YthcpfkkddfgamaaBase
import Derived.Test.YthcpfkkddfgamaaPF26Ix
namespace Go.Proofs.Ythcpfkkddfgamaa.LF26I
open Go.RowKit Go.Proofs.Ythcpfkkddfgamaa.Base Go.Proofs.YthcpfkkddfgamaaW.PrintWords Go.Proofs.YthcpfkkddfgamaaW.PrintMore Go.Proofs.Ythcpfkkddfgamaa.PF26I
set_option linter.unusedVariables false
set_option linter.unusedSimpArgs false

/-! ### tickets -/
theorem rd69 (l : List S69) (i : Nat) (h : i < l.length) : rd_T69 l (i : Int) = l[i] := by
  unfold rd_T69
  simp [List.getD_eq_getElem?_getD, h]
theorem rd75 (l : List S75) (i : Nat) (h : i < l.length) : rd_T75 l (i : Int) = l[i] := by
  unfold rd_T75
  simp [List.getD_eq_getElem?_getD, h]
def cv (t : S69) : S75 := ⟨t.f0, t.f1, t.f2⟩
theorem Ref_l0 (l : List S69) (hl : l.length ≤ 1000000) : ∀ (d i : Nat), l.length - i = d → i ≤ l.length → Ev (fun k => batonlaw26_Ref.l0 k l ((l.take i).map cv) (i : Int)) (l.map cv) := by
  intro d
  induction d with
  | zero =>
    intro i hd hi
    obtain rfl : i = l.length := by omega
    apply ev_succ
    simp only [batonlaw26_Ref.l0, if_neg (show ¬ ((l.length : Int) < (l.length : Int)) by omega)]
    exact ev_eq (ev_some _) (by rw [List.take_length])
  | succ d ih =>
    intro i hd hi
    have hlt : i < l.length := by omega
    have hw : wrap64 ((i : Int) + 1) = ((i + 1 : Nat) : Int) := by rw [w64 (by omega) (by omega)]; omega
    have hn : ((l.take i).map cv).length < 5864062014805 := by simp; omega
    have h := ih (i + 1) (by omega) (by omega)
    rw [← List.take_append_getElem hlt, List.map_append] at h
    apply ev_succ
    simp only [batonlaw26_Ref.l0, if_pos (show (i : Int) < (l.length : Int) by omega), if_pos (show (0 : Int) ≤ (i : Int) by omega), if_pos hn, rd69 l i hlt, hw]
    exact h
theorem Ref_ev (l : List S69) (hl : l.length ≤ 1000000) : Ev (fun k => batonlaw26_Ref.f k l) (l.map cv) := by
  unfold batonlaw26_Ref.f
  exact Ref_l0 l hl l.length 0 (by omega) (by omega)
def okT (t : S75) : Prop := 1 ≤ t.f0 ∧ t.f0 ≤ 281474976710656 ∧ -1 ≤ t.f1 ∧ t.f1 ≤ 15 ∧ 0 ≤ t.f2 ∧ t.f2 ≤ 281474976710656
instance (t : S75) : Decidable (okT t) := by unfold okT; infer_instance
theorem One_f (t : S75) : batonref26_One.f t.f0 t.f1 t.f2 = some (decide (okT t)) := by
  unfold batonref26_One.f
  repeat' split
  all_goals first | exact congrArg some (decide_eq_false (by unfold okT; omega)).symm | exact congrArg some (decide_eq_decide.2 ⟨fun h => by unfold okT; omega, fun h => by unfold okT at h; omega⟩)
def RT (last : Int) : List S75 → Prop
  | [] => True
  | t :: r => okT t ∧ last < t.f0 ∧ RT t.f0 r
instance RTdec : (last : Int) → (l : List S75) → Decidable (RT last l)
  | _, [] => isTrue trivial
  | last, t :: r => by
    have := RTdec t.f0 r
    unfold RT
    infer_instance
theorem Right_l0 (l : List S75) (hl : l.length ≤ 1000000) : ∀ (d i : Nat) (last : Int), l.length - i = d → i ≤ l.length → Ev (fun k => batonref26_Right.l0 k l last (i : Int)) (decide (RT last (l.drop i) ∧ l.length ≤ 24)) := by
  intro d
  induction d with
  | zero =>
    intro i last hd hi
    obtain rfl : i = l.length := by omega
    apply ev_succ
    simp only [batonref26_Right.l0, if_neg (show ¬ ((l.length : Int) < (l.length : Int)) by omega), List.drop_length]
    exact ev_eq (ev_some _) (decide_eq_decide.2 ⟨fun h => ⟨trivial, by omega⟩, fun h => by omega⟩)
  | succ d ih =>
    intro i last hd hi
    have hlt : i < l.length := by omega
    have hw : wrap64 ((i : Int) + 1) = ((i + 1 : Nat) : Int) := by rw [w64 (by omega) (by omega)]; omega
    have hdr : RT last (l.drop i) ↔ (okT l[i] ∧ last < l[i].f0 ∧ RT l[i].f0 (l.drop (i + 1))) := by
      rw [List.drop_eq_getElem_cons hlt]
      exact Iff.rfl
    apply ev_succ
    simp only [batonref26_Right.l0, if_pos (show (i : Int) < (l.length : Int) by omega), if_pos (show (0 : Int) ≤ (i : Int) by omega), rd75 l i hlt, One_f, Option.bind_some, decide_eq_true_eq, hw]
    by_cases h1 : okT l[i]
    · simp only [if_pos h1]
      by_cases h2 : l[i].f0 ≤ last
      · simp only [if_pos h2]
        exact ev_eq (ev_some _) (decide_eq_false (fun h => by have := (hdr.1 h.1).2.1; omega)).symm
      · simp only [if_neg h2]
        refine ev_eq (ih (i + 1) l[i].f0 (by omega) (by omega)) (decide_eq_decide.2 ?_)
        rw [hdr]
        exact ⟨fun h => ⟨⟨h1, by omega, h.1⟩, h.2⟩, fun h => ⟨h.1.2.2, h.2⟩⟩
    · simp only [if_neg h1]
      exact ev_eq (ev_some _) (decide_eq_false (fun h => h1 (hdr.1 h.1).1)).symm
theorem RRight_ev (l : List S75) (hl : l.length ≤ 1000000) : Ev (fun k => batonref26_Right.f k l) (decide (RT 0 l ∧ l.length ≤ 24)) := by
  unfold batonref26_Right.f
  exact Right_l0 l hl l.length 0 0 (by omega) (by omega)
/-- What a ticket is of use for, by the program. -/
def useT (no dev now : Int) : List S69 → Int
  | [] => 13
  | t :: r => if t.f0 = no then (if t.f1 ≥ 0 ∧ t.f1 ≠ dev then 13 else if t.f2 < now then 14 else 0) else useT no dev now r
theorem idx_use (no dev now : Int) : ∀ (l pre : List S69), (if idxOf (fun x => x.f0 == no) l (pre.length : Int) < 0 then some 13 else if (rd_T69 (pre ++ l) (idxOf (fun x => x.f0 == no) l (pre.length : Int))).f1 ≥ 0 ∧ (rd_T69 (pre ++ l) (idxOf (fun x => x.f0 == no) l (pre.length : Int))).f1 ≠ dev then some 13 else if (rd_T69 (pre ++ l) (idxOf (fun x => x.f0 == no) l (pre.length : Int))).f2 < now then some 14 else some 0) = some (useT no dev now l)
  | [], pre => by
    unfold idxOf useT
    rw [if_pos (by omega)]
  | t :: r, pre => by
    unfold idxOf useT
    by_cases h : t.f0 = no
    · rw [if_pos (show ((fun x : S69 => x.f0 == no) t) = true from beq_iff_eq.2 h), if_pos h, if_neg (by omega), rd69 (pre ++ t :: r) pre.length (by simp)]
      simp only [List.getElem_append_right (Nat.le_refl _), Nat.sub_self, List.getElem_cons_zero]
      repeat' split
      all_goals rfl
    · rw [if_neg (show ¬ ((fun x : S69 => x.f0 == no) t) = true from fun e => h (beq_iff_eq.1 e)), if_neg h]
      have := idx_use no dev now r (pre ++ [t])
      rw [List.append_assoc, List.length_append] at this
      simpa using this
theorem Use_f (l : List S69) (no dev now : Int) : ticket_Use.f l no dev now = some (useT no dev now l) := by
  have := idx_use no dev now l []
  unfold ticket_Use.f
  simpa using this
theorem awake26 : Ev (fun k => batonlaw26_awake.f k) true := Ev.of (fun k => batonlaw26_awake.mono k) (k := 4) (by
  unfold batonlaw26_awake.f
  simp [ticket_Issue.f, ticket_Ticket_78.f, ticket_one.f, ticket_Issue.j0, Use_f, useT])

end Go.Proofs.Ythcpfkkddfgamaa.LF26I
