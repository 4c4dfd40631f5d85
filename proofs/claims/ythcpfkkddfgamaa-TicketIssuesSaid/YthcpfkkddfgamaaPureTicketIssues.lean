/- The law TicketIssues, of plain lists: which tickets may be, which there are with one more, or why there is none, and whose time is not over, is what the page says. No condition beside the sizes that the row itself gives. -/
import Derived.Test.YthcpfkkddfgamaaLF26I
namespace Go.Proofs.Ythcpfkkddfgamaa.Pure
open Go.RowKit Go.Proofs.Ythcpfkkddfgamaa.Base Go.Proofs.YthcpfkkddfgamaaW.PrintWords Go.Proofs.YthcpfkkddfgamaaW.PrintMore Go.Proofs.Ythcpfkkddfgamaa.PF26I
set_option linter.unusedVariables false
set_option linter.unusedSimpArgs false
open Go.Proofs.Ythcpfkkddfgamaa.LF26I

theorem one_f (t : S69) : ticket_one.f t.f0 t.f1 t.f2 = some (decide (okT (cv t))) := by
  unfold ticket_one.f
  have e : okT (cv t) ↔ (1 ≤ t.f0 ∧ t.f0 ≤ 281474976710656 ∧ -1 ≤ t.f1 ∧ t.f1 ≤ 15 ∧ 0 ≤ t.f2 ∧ t.f2 ≤ 281474976710656) := Iff.rfl
  repeat' split
  all_goals first | exact congrArg some (decide_eq_false (by rw [e]; omega)).symm | exact congrArg some (decide_eq_decide.2 ⟨fun h => by rw [e]; omega, fun h => by rw [e] at h; omega⟩)
theorem RT_app (z : S75) : ∀ (M : List S75) (last : Int), RT last (M ++ [z]) ↔ (RT last M ∧ okT z ∧ last < z.f0 ∧ ∀ x ∈ M, x.f0 < z.f0)
  | [], last => by
    show (okT z ∧ last < z.f0 ∧ True) ↔ _
    simp [RT]
  | t :: r, last => by
    have ih := RT_app z r t.f0
    show (okT t ∧ last < t.f0 ∧ RT t.f0 (r ++ [z])) ↔ ((okT t ∧ last < t.f0 ∧ RT t.f0 r) ∧ okT z ∧ last < z.f0 ∧ ∀ x ∈ t :: r, x.f0 < z.f0)
    rw [ih]
    constructor
    · rintro ⟨h1, h2, h3, h4, h5, h6⟩
      refine ⟨⟨h1, h2, h3⟩, h4, by omega, fun x hx => ?_⟩
      rcases List.mem_cons.1 hx with rfl | hx
      · exact h5
      · exact h6 x hx
    · rintro ⟨⟨h1, h2, h3⟩, h4, h5, h6⟩
      exact ⟨h1, h2, h3, h4, h6 t (by simp), fun x hx => h6 x (by simp [hx])⟩
theorem PRight_l0 (l : List S69) (hl : l.length ≤ 1000000) : ∀ (d i : Nat), l.length - i = d → i ≤ l.length → ∀ last : Int, (i = 0 → last = 0) → (∀ h : 0 < i, ∀ h2 : i - 1 < l.length, last = (l[i - 1]).f0) → Ev (fun k => ticket_Right.l0 k l l (l.length : Int) (i : Int)) (decide (RT last ((l.drop i).map cv) ∧ l.length ≤ 24)) := by
  intro d
  induction d with
  | zero =>
    intro i hd hi last h0 h1
    obtain rfl : i = l.length := by omega
    apply ev_succ
    simp only [ticket_Right.l0, if_neg (show ¬ ((l.length : Int) < (l.length : Int)) by omega), List.drop_length, List.map_nil]
    exact ev_eq (ev_some _) (decide_eq_decide.2 ⟨fun h => ⟨trivial, by omega⟩, fun h => by omega⟩)
  | succ d ih =>
    intro i hd hi last h0 h1
    have hlt : i < l.length := by omega
    have hw : wrap64 ((i : Int) + 1) = ((i + 1 : Nat) : Int) := by rw [w64 (by omega) (by omega)]; omega
    have hdr : RT last ((l.drop i).map cv) ↔ (okT (cv l[i]) ∧ last < l[i].f0 ∧ RT l[i].f0 ((l.drop (i + 1)).map cv)) := by
      rw [List.drop_eq_getElem_cons hlt, List.map_cons]
      exact Iff.rfl
    have next : last < l[i].f0 → okT (cv l[i]) → Ev (fun k => ticket_Right.l0 k l l (l.length : Int) ((i + 1 : Nat) : Int)) (decide (RT last ((l.drop i).map cv) ∧ l.length ≤ 24)) := fun h2 h3 => by
      refine ev_eq (ih (i + 1) (by omega) (by omega) l[i].f0 (fun h => by omega) (fun _ _ => by simp)) (decide_eq_decide.2 ?_)
      rw [hdr]
      exact ⟨fun h => ⟨⟨h3, h2, h.1⟩, h.2⟩, fun h => ⟨h.1.2.2, h.2⟩⟩
    apply ev_succ
    simp only [ticket_Right.l0, if_pos (show (i : Int) < (l.length : Int) by omega), if_pos (show (0 : Int) ≤ (i : Int) by omega), rd69 l i hlt, one_f, Option.bind_some, decide_eq_true_eq, hw]
    by_cases c1 : okT (cv l[i])
    · have c1' : 1 ≤ l[i].f0 := c1.1
      simp only [if_pos c1]
      by_cases c2 : (i : Int) > 0
      · have hlt1 : i - 1 < l.length := by omega
        have hw1 : wrap64 ((i : Int) - 1) = ((i - 1 : Nat) : Int) := by rw [w64 (by omega) (by omega)]; omega
        have hla := h1 (by omega) hlt1
        simp only [if_pos c2, hw1, if_pos (show (0 : Int) ≤ ((i - 1 : Nat) : Int) by omega), if_pos (show ((i - 1 : Nat) : Int) < (l.length : Int) by omega), rd69 l (i - 1) hlt1]
        by_cases c3 : l[i].f0 ≤ (l[i - 1]).f0
        · simp only [if_pos c3]
          exact ev_eq (ev_some _) (decide_eq_false (fun h => by have := (hdr.1 h.1).2.1; omega)).symm
        · simp only [if_neg c3]
          exact next (by omega) c1
      · simp only [if_neg c2]
        exact next (by rw [h0 (by omega)]; omega) c1
    · simp only [if_neg c1]
      exact ev_eq (ev_some _) (decide_eq_false (fun h => c1 (hdr.1 h.1).1)).symm
theorem PRight_ev (l : List S69) (hl : l.length ≤ 1000000) : Ev (fun k => ticket_Right.f k l) (decide (RT 0 (l.map cv) ∧ l.length ≤ 24)) := by
  unfold ticket_Right.f
  exact PRight_l0 l hl l.length 0 (by omega) (by omega) 0 (fun _ => rfl) (fun h => by omega)
theorem TSame_l0 (a : List S75) (hl : a.length ≤ 1000000) : ∀ (d i : Nat), a.length - i = d → i ≤ a.length → Ev (fun k => batonref26_Same.l0 k a a (i : Int)) true := by
  intro d
  induction d with
  | zero =>
    intro i hd hi
    obtain rfl : i = a.length := by omega
    apply ev_succ
    simp only [batonref26_Same.l0, if_neg (show ¬ ((a.length : Int) < (a.length : Int)) by omega)]
    exact ev_some _
  | succ d ih =>
    intro i hd hi
    have hlt : i < a.length := by omega
    have hw : wrap64 ((i : Int) + 1) = ((i + 1 : Nat) : Int) := by rw [w64 (by omega) (by omega)]; omega
    apply ev_succ
    simp only [batonref26_Same.l0, if_pos (show (i : Int) < (a.length : Int) by omega), if_pos (show (0 : Int) ≤ (i : Int) by omega), beq_self_eq_true, Bool.not_true, Bool.or_self, Bool.false_eq_true, if_false, hw]
    exact ih (i + 1) (by omega) (by omega)
theorem TSame_ev (a : List S75) (hl : a.length ≤ 1000000) : Ev (fun k => batonref26_Same.f k a a) true := by
  unfold batonref26_Same.f
  simp only [if_true]
  exact TSame_l0 a hl a.length 0 (by omega) (by omega)
theorem Live_l0 (l : List S75) (now : Int) (hl : l.length ≤ 1000000) : ∀ (d i : Nat) (o : List S75), l.length - i = d → i ≤ l.length → o.length ≤ i → Ev (fun k => batonref26_Live.l0 k l now o (i : Int)) (o ++ (l.drop i).filter (fun x => decide (now ≤ x.f2))) := by
  intro d
  induction d with
  | zero =>
    intro i o hd hi ho
    obtain rfl : i = l.length := by omega
    apply ev_succ
    simp only [batonref26_Live.l0, if_neg (show ¬ ((l.length : Int) < (l.length : Int)) by omega), List.drop_length, List.filter_nil, List.append_nil]
    exact ev_some _
  | succ d ih =>
    intro i o hd hi ho
    have hlt : i < l.length := by omega
    have hw : wrap64 ((i : Int) + 1) = ((i + 1 : Nat) : Int) := by rw [w64 (by omega) (by omega)]; omega
    apply ev_succ
    simp only [batonref26_Live.l0, if_pos (show (i : Int) < (l.length : Int) by omega), if_pos (show (0 : Int) ≤ (i : Int) by omega), rd75 l i hlt, hw, List.drop_eq_getElem_cons hlt, List.filter_cons]
    by_cases c : l[i].f2 ≥ now
    · simp only [if_pos c, if_pos (show o.length < 5864062014805 by omega), decide_eq_true (show now ≤ l[i].f2 from c), if_true]
      refine ev_eq (ih (i + 1) (o ++ [l[i]]) (by omega) (by omega) (by simp; omega)) ?_
      simp
    · simp only [if_neg c, decide_eq_false (show ¬ now ≤ l[i].f2 from c), Bool.false_eq_true, if_false]
      exact ih (i + 1) o (by omega) (by omega) (by omega)
theorem filter_cv (now : Int) : ∀ l : List S69, (l.map cv).filter (fun x => decide (now ≤ x.f2)) = (l.filter (fun x => !decide (x.f2 < now))).map cv
  | [] => rfl
  | t :: r => by
    have ih := filter_cv now r
    rw [List.map_cons, List.filter_cons, List.filter_cons, ih]
    by_cases c : t.f2 < now
    · rw [if_neg (show ¬ (decide (now ≤ (cv t).f2) = true) by show ¬ (decide (now ≤ t.f2) = true); simp; omega), if_neg (by simpa using c)]
    · rw [if_pos (show decide (now ≤ (cv t).f2) = true by show decide (now ≤ t.f2) = true; simp; omega), if_pos (by simpa using c), List.map_cons]
def issS (l : List S75) (t : S75) : List S75 × Int := if okT t then (if l.any (fun x => decide (t.f0 ≤ x.f0)) = true then (l, 20) else if l.length = 24 then (l, 2) else (l ++ [t], 0)) else (l, 1)
theorem Iss_l0 (l : List S75) (t : S75) (hl : l.length ≤ 1000000) : ∀ (d i : Nat), l.length - i = d → i ≤ l.length → Ev (fun k => batonref26_Issue.l0 k l (i : Int) t.f0 t.f1 t.f2) (if (l.drop i).any (fun x => decide (t.f0 ≤ x.f0)) = true then (l, 20) else if l.length = 24 then (l, 2) else (l ++ [t], 0)) := by
  intro d
  induction d with
  | zero =>
    intro i hd hi
    obtain rfl : i = l.length := by omega
    apply ev_succ
    simp only [batonref26_Issue.l0, if_neg (show ¬ ((l.length : Int) < (l.length : Int)) by omega), List.drop_length, List.any_nil, Bool.false_eq_true, if_false, Option.bind_some, List.nil_append, List.length_nil, if_pos (show 0 + l.length < 5864062014805 by omega), List.length_singleton, if_pos (show l.length + 1 < 5864062014805 by omega)]
    by_cases c : l.length = 24
    · simp only [if_pos c, if_pos (show (l.length : Int) = 24 by omega)]
      exact ev_some _
    · simp only [if_neg c, if_neg (show ¬ (l.length : Int) = 24 by omega)]
      exact ev_some _
  | succ d ih =>
    intro i hd hi
    have hlt : i < l.length := by omega
    have hw : wrap64 ((i : Int) + 1) = ((i + 1 : Nat) : Int) := by rw [w64 (by omega) (by omega)]; omega
    apply ev_succ
    simp only [batonref26_Issue.l0, if_pos (show (i : Int) < (l.length : Int) by omega), if_pos (show (0 : Int) ≤ (i : Int) by omega), rd75 l i hlt, hw, List.drop_eq_getElem_cons hlt, List.any_cons]
    by_cases c : l[i].f0 ≥ t.f0
    · simp only [if_pos c, decide_eq_true (show t.f0 ≤ l[i].f0 from c), Bool.true_or, if_true]
      exact ev_some _
    · simp only [if_neg c, decide_eq_false (show ¬ t.f0 ≤ l[i].f0 from c), Bool.false_or]
      exact ih (i + 1) (by omega) (by omega)
theorem RIssue_ev (l : List S75) (t : S75) (hl : l.length ≤ 1000000) : Ev (fun k => batonref26_Issue.f k l t.f0 t.f1 t.f2) (issS l t) := by
  unfold batonref26_Issue.f issS
  simp only [One_f, Option.bind_some, decide_eq_true_eq]
  by_cases c : okT t
  · simp only [if_pos c]
    exact Iss_l0 l t hl l.length 0 (by omega) (by omega)
  · simp only [if_neg c]
    exact ev_some _
theorem PIssue_ev (l : List S69) (t : S69) (hr : RT 0 (l.map cv)) (hl : l.length ≤ 24) : ∃ a e, Ev (fun k => ticket_Issue.f k l t.f0 t.f1 t.f2) (a, e) ∧ issS (l.map cv) (cv t) = (a.map cv, e) ∧ RT 0 (a.map cv) ∧ a.length ≤ 24 := by
  have jj : ∀ b : Bool, (l.map cv).any (fun x => decide (t.f0 ≤ x.f0)) = b → okT (cv t) → ∃ a e, Ev (fun k => ticket_Issue.j0 k l l b t.f0 t.f1 t.f2) (a, e) ∧ issS (l.map cv) (cv t) = (a.map cv, e) ∧ RT 0 (a.map cv) ∧ a.length ≤ 24 := by
    intro b hb hok
    have hs : issS (l.map cv) (cv t) = if b = true then (l.map cv, 20) else if (l.map cv).length = 24 then (l.map cv, 2) else (l.map cv ++ [cv t], 0) := by
      unfold issS
      rw [if_pos hok]
      rw [show (l.map cv).any (fun x => decide ((cv t).f0 ≤ x.f0)) = b from hb]
    rw [hs]
    cases b with
    | true =>
      refine ⟨l, 20, ?_, rfl, hr, hl⟩
      apply ev_succ
      simp only [ticket_Issue.j0, if_true]
      exact ev_some _
    | false =>
      rw [if_neg (by decide), List.length_map]
      by_cases c : l.length = 24
      · refine ⟨l, 2, ?_, if_pos c, hr, hl⟩
        apply ev_succ
        simp only [ticket_Issue.j0, Bool.false_eq_true, if_false, if_pos (show (l.length : Int) ≥ 24 by omega)]
        exact ev_some _
      · refine ⟨l ++ [t], 0, ?_, ?_, ?_, by simp; omega⟩
        · apply ev_succ
          simp only [ticket_Issue.j0, Bool.false_eq_true, if_false, if_neg (show ¬ (l.length : Int) ≥ 24 by omega), if_pos (show l.length < 5864062014805 by omega)]
          exact ev_some _
        · rw [if_neg c, List.map_append]
          rfl
        · rw [List.map_append]
          refine (RT_app (cv t) (l.map cv) 0).2 ⟨hr, hok, by have := hok.1; omega, fun x hx => ?_⟩
          have := List.any_eq_false.1 hb x hx
          simp at this
          show x.f0 < t.f0
          omega
  unfold ticket_Issue.f
  simp only [ticket_Ticket_78.f, if_pos (show l.length < 5864062014805 by omega), Option.bind_some, one_f, decide_eq_true_eq]
  by_cases c : okT (cv t)
  · simp only [if_pos c]
    rcases List.eq_nil_or_concat l with rfl | ⟨M, z, hM⟩
    · simp only [List.length_nil, if_neg (show ¬ ((0 : Nat) : Int) > 0 by decide)]
      exact jj false rfl c
    · rw [List.concat_eq_append] at hM
      have hlen : l.length = M.length + 1 := by rw [hM]; simp
      have hw1 : wrap64 ((l.length : Int) - 1) = ((l.length - 1 : Nat) : Int) := by rw [w64 (by omega) (by omega)]; omega
      have hrd : rd_T69 l ((l.length - 1 : Nat) : Int) = z := by
        rw [rd69 l _ (by omega)]
        simp [hM]
      simp only [if_pos (show (l.length : Int) > 0 by omega), hw1, if_pos (show (0 : Int) ≤ ((l.length - 1 : Nat) : Int) by omega), if_pos (show ((l.length - 1 : Nat) : Int) < (l.length : Int) by omega), hrd]
      refine jj _ ?_ c
      have h1 := hr
      rw [hM, List.map_append] at h1
      have h2 := (RT_app (cv z) (M.map cv) 0).1 h1
      rw [hM, List.map_append, List.any_append]
      by_cases c2 : t.f0 ≤ z.f0
      · rw [decide_eq_true c2]
        simp [cv, c2]
      · rw [decide_eq_false c2]
        have h3 : (M.map cv).any (fun x => decide (t.f0 ≤ x.f0)) = false := List.any_eq_false.2 (fun x hx => by
          have := h2.2.2.2 x hx
          have h4 : (cv z).f0 = z.f0 := rfl
          simp
          omega)
        rw [h3]
        simp [cv]
        omega
  · simp only [if_neg c]
    refine ⟨l, 1, ev_some _, ?_, hr, hl⟩
    unfold issS
    rw [if_neg c]
theorem TicketIssues : batonlaw26_TicketIssues.Pure := by
  intro l t0 t1 t2 now _ _ _ _ _
  refine Ev.rounds ?_
  unfold batonlaw26_TicketIssues.f
  refine ev_bind awake26 ?_
  simp only [if_true]
  by_cases c : (l.length : Int) > 40
  · simp only [if_pos c]
    exact ev_some _
  · simp only [if_neg c]
    have hml : (l.map cv).length = l.length := List.length_map cv
    refine ev_bind (Ref_ev l (by omega)) (ev_bind (RRight_ev (l.map cv) (by omega)) (ev_bind (PRight_ev l (by omega)) ?_))
    rw [hml]
    by_cases h : RT 0 (l.map cv) ∧ l.length ≤ 24
    · simp only [decide_eq_true h, if_true]
      obtain ⟨a, e, h1, h2, h3, h4⟩ := PIssue_ev l ⟨t0, t1, t2⟩ h.1 h.2
      refine ev_bind h1 (ev_bind (Ref_ev [(⟨t0, t1, t2⟩ : S69)] (by simp)) ?_)
      simp only [List.map_cons, List.map_nil, List.length_singleton, if_pos (show (0 : Int) < ((1 : Nat) : Int) by decide), show rd_T75 [cv (⟨t0, t1, t2⟩ : S69)] 0 = cv (⟨t0, t1, t2⟩ : S69) from rfl]
      refine ev_bind (RIssue_ev (l.map cv) (cv ⟨t0, t1, t2⟩) (by omega)) ?_
      simp only [h2, if_true]
      refine ev_bind (Ref_ev a (by omega)) (ev_bind (TSame_ev _ (by rw [List.length_map]; omega)) ?_)
      simp only [if_true]
      refine ev_bind (PRight_ev a (by omega)) ?_
      have hfl : (l.filter (fun x => !decide (x.f2 < now))).length ≤ l.length := List.length_filter_le _ _
      simp only [decide_eq_true (And.intro h3 h4), if_true, ticket_Live.f, if_pos (show l.length < 5864062014805 by omega), Option.bind_some]
      refine ev_bind (Ref_ev _ (by omega)) ?_
      have hlive := Live_l0 (l.map cv) now (by omega) (l.map cv).length 0 [] (by omega) (by omega) (by simp)
      rw [List.nil_append, List.drop_zero, filter_cv] at hlive
      refine ev_bind (f := fun n t188 => _) (show Ev (fun k => batonref26_Live.f k (l.map cv) now) _ from hlive) (ev_bind (TSame_ev _ (by rw [List.length_map]; omega)) ?_)
      simp only [if_true]
      exact ev_bind (Ref_ev l (by omega)) (ev_bind (TSame_ev _ (by omega)) (ev_some _))
    · simp only [decide_eq_false h, Bool.false_eq_true, if_false]
      exact ev_some _

end Go.Proofs.Ythcpfkkddfgamaa.Pure
