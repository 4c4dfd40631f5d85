/- The law InboxTakes, of plain lists: which boxes may be, and what is held and taken of any that comes, or why nothing, is what the page says; it may be then, too. No condition beside the sizes that the row itself gives. -/
import Derived.Test.YtdbfclfglpbpmaaLF32T
namespace Go.Proofs.Ytdbfclfglpbpmaa.Pure
open Go.RowKit Go.Proofs.Ytdbfclfglpbpmaa.Base Go.Proofs.YtdbfclfglpbpmaaW.PrintWords Go.Proofs.YtdbfclfglpbpmaaW.PrintMore Go.Proofs.Ytdbfclfglpbpmaa.PF32T
set_option linter.unusedVariables false
set_option linter.unusedSimpArgs false
open Go.Proofs.Ytdbfclfglpbpmaa.LF32T

theorem Take_both (next : Int) (held : List S142) (first room : Int) (b : List Int) (hok : okB next held) (hh : held.length ≤ 80) (hb : b.length ≤ 100) (hf1 : first ≤ 9223372036854775807) : ∃ n' l' o e, Ev (fun k => inbox_Take.f k next held first b room) (n', l', o, e) ∧ Ev (fun k => batonref32_Take.f k next (held.map cv) first b room) (n', l'.map cv, o, e) ∧ okB n' l' ∧ l'.length ≤ 1000 ∧ o.length ≤ 1000 := by
  obtain ⟨hn0, hn1, hH⟩ := hok
  obtain ⟨hs, hk⟩ := (okH_iff next held next).1 hH
  have hw1 : wrap64 (281474976710656 - (b.length : Int)) = 281474976710656 - (b.length : Int) := w64 (by omega) (by omega)
  have hwn : wrap64 (next + 64) = next + 64 := w64 (by omega) (by omega)
  by_cases c1 : first < 0
  · refine ⟨next, held, [], 1, ?_, ?_, ⟨hn0, hn1, hH⟩, by omega, by simp⟩
    · unfold inbox_Take.f
      simp only [if_pos c1]
      exact ev_some _
    · unfold batonref32_Take.f
      simp only [if_pos c1]
      exact ev_some _
  by_cases c2 : first > 281474976710656 - (b.length : Int)
  · refine ⟨next, held, [], 16, ?_, ?_, ⟨hn0, hn1, hH⟩, by omega, by simp⟩
    · unfold inbox_Take.f
      simp only [if_neg c1, if_neg (show ¬ (b.length : Int) > 281474976710656 by omega), hw1, decide_eq_true c2]
      apply ev_succ
      simp only [inbox_Take.j0, if_true]
      exact ev_some _
    · unfold batonref32_Take.f
      simp only [if_neg c1, if_neg (show ¬ (b.length : Int) > 281474976710656 by omega), hw1, decide_eq_true c2]
      apply ev_succ
      simp only [batonref32_Take.j0, if_true]
      exact ev_some _
  have e1 : wrap64 (wrap64 (first + (b.length : Int)) - 1) = first + b.length - 1 := by rw [w64 (x := first + (b.length : Int)) (by omega) (by omega), w64 (by omega) (by omega)]
  by_cases c3 : 0 < b.length ∧ first + (b.length : Int) - next > 64
  · refine ⟨next, held, [], 2, Take_early next held first room b hn0 hn1 (by omega) (by omega) (by omega) c3.1 c3.2, ?_, ⟨hn0, hn1, hH⟩, by omega, by simp⟩
    unfold batonref32_Take.f
    simp only [if_neg c1, if_neg (show ¬ (b.length : Int) > 281474976710656 by omega), hw1, decide_eq_false c2]
    apply ev_succ
    simp only [batonref32_Take.j0, Bool.false_eq_true, if_false, if_pos (show (b.length : Int) > 0 by omega), e1, hwn, decide_eq_true (show first + (b.length : Int) - 1 ≥ next + 64 by omega)]
    apply ev_succ
    simp only [batonref32_Take.j1, if_true]
    exact ev_some _
  obtain ⟨L, hL, hr⟩ := Take_ok next held first room b hn0 hn1 hs (fun x hx => (hk x hx).1) (by omega) (by omega) (by omega) (by omega) (fun _ => by omega)
  obtain ⟨p1, p2, p3, p4⟩ := hL
  have hkL : ∀ x ∈ L, next ≤ x.f0 ∧ x.f0 < next + 64 ∧ x.f0 < 281474976710656 := fun x hx => by
    rcases p4 x hx with h | ⟨q1, q2, q3, _⟩
    · have := hk x h; omega
    · omega
  obtain ⟨r1, r2, r3, r4, r5⟩ := run_spec L next p1 (fun x hx => (hkL x hx).1)
  have hol : (run next L).1.length ≤ L.length := run_len L next
  have hRl : (run next L).2.length ≤ L.length := by
    have : ∀ (L : List S142) (n : Int), (run n L).2.length ≤ L.length := by
      intro L
      induction L with
      | nil => intro n; simp [run]
      | cons x t ih =>
        intro n
        show (if x.f0 = n then _ else _ : List Int × List S142).2.length ≤ _
        split
        · have := ih (n + 1)
          simp
          omega
        · simp
    exact this L _
  have hlm : ∀ (L : List S142) (n c : Int), lookH L n = some c → ∃ x ∈ L, x.f0 = n := by
    intro L
    induction L with
    | nil => intro n c h; simp [lookH] at h
    | cons x t ih =>
      intro n c h
      by_cases cc : x.f0 = n
      · exact ⟨x, by simp, cc⟩
      · have : lookH (x :: t) n = lookH t n := by
          show (if x.f0 = n then _ else _) = _
          rw [if_neg cc]
        rw [this] at h
        obtain ⟨y, h1, h2⟩ := ih n c h
        exact ⟨y, by simp [h1], h2⟩
  have hn' : next + ((run next L).1.length : Int) ≤ 281474976710656 := by
    rcases Nat.eq_zero_or_pos (run next L).1.length with h | h
    · omega
    · obtain ⟨x, hx, e⟩ := hlm L _ _ (r1 ((run next L).1.length - 1) (by omega))
      have := hkL x hx
      omega
  -- the page's
  have hA0 : ∀ m, lookR (held.map cv) m = Mf held next first b 0 m := fun m => by
    rw [lookR_map]
    unfold Mf
    cases lookH held m with
    | some c => rfl
    | none => rw [if_neg (by omega)]
  obtain ⟨A, g1, g2, g3⟩ := RTake_l0 held next first room b (by omega) (by omega) (by omega) next (held.map cv) rfl b.length 0 (held.map cv) (by omega) (by omega) (by simp) hA0
  have hAL : ∀ m, lookR A m = lookH L m := fun m => (g2 m).trans (p3 m).symm
  have hj1 : ∀ r, Ev (fun k => batonref32_Take.l1 k room A [] next (held.map cv) next) r → Ev (fun k => batonref32_Take.f k next (held.map cv) first b room) r := fun r hr => by
    unfold batonref32_Take.f
    simp only [if_neg c1, if_neg (show ¬ (b.length : Int) > 281474976710656 by omega), hw1, decide_eq_false c2]
    have hj : Ev (fun k => batonref32_Take.j1 k first b room false next (held.map cv)) r := by
      apply ev_succ
      simp only [batonref32_Take.j1, Bool.false_eq_true, if_false, Option.bind_some, List.length_nil, if_pos (show 0 + (held.map cv).length < 8796093022208 by simp; omega), List.nil_append]
      exact g3 r hr
    apply ev_succ
    by_cases c : (b.length : Int) > 0
    · simp only [batonref32_Take.j0, Bool.false_eq_true, if_false, if_pos c, e1, hwn, decide_eq_false (show ¬ first + (b.length : Int) - 1 ≥ next + 64 by omega)]
      exact hj
    · simp only [batonref32_Take.j0, Bool.false_eq_true, if_false, if_neg c]
      exact hj
  by_cases c4 : ((run next L).1.length : Int) > room
  · rw [if_pos c4] at hr
    refine ⟨next, held, [], 2, hr, hj1 _ ?_, ⟨hn0, hn1, hH⟩, by omega, by simp⟩
    have := RTake_l1 room next (held.map cv) A next (run next L).1 (by omega) hn0 (by omega) (by omega) (fun j h => by rw [hAL]; exact r1 j h) (by rw [hAL]; exact r2) (next, held.map cv, [], 2) (fun h => absurd c4 h) (fun _ => rfl) (run next L).1.length 0 (by omega) (by omega)
    simpa using this
  · rw [if_neg c4] at hr
    refine ⟨_, _, _, _, hr, hj1 _ ?_, ⟨by omega, hn', (okH_iff _ _ _).2 ⟨r3, fun x hx => ?_⟩⟩, by omega, by omega⟩
    · have h2 := RTake_l2 A (run next L).1 (next + ((run next L).1.length : Int)) (by omega) (by omega) (by omega) 64 (run next L).2 [] (by omega) r3 (fun x hx => by
        have := r4 x hx
        have := hkL x this.2
        omega) (fun m h => by rw [hAL, r5 m (by omega)]) (by simp)
      rw [show next + ((run next L).1.length : Int) + 64 - ((64 : Nat) : Int) = next + ((run next L).1.length : Int) by omega, List.nil_append] at h2
      have := RTake_l1 room next (held.map cv) A next (run next L).1 (by omega) hn0 (by omega) (by omega) (fun j h => by rw [hAL]; exact r1 j h) (by rw [hAL]; exact r2) _ (fun _ => h2) (fun h => absurd h c4) (run next L).1.length 0 (by omega) (by omega)
      simpa using this
    · have h1 := r4 x hx
      have h2 := hkL x h1.2
      omega
theorem InboxTakes : batonlaw32_InboxTakes.Pure := by
  intro next held b first room hn hh hb hf _
  have bf := bounds_i64 hf
  refine Ev.rounds ?_
  unfold batonlaw32_InboxTakes.f
  refine ev_bind awake32 ?_
  simp only [if_true]
  apply ev_succ
  simp only [batonlaw32_InboxTakes.j0]
  by_cases c1 : (held.length : Int) > 80
  · simp only [if_pos c1]
    apply ev_succ
    simp only [batonlaw32_InboxTakes.j1, if_true]
    exact ev_some _
  · simp only [if_neg c1]
    apply ev_succ
    by_cases c2 : (b.length : Int) > 100
    · simp only [batonlaw32_InboxTakes.j1, decide_eq_true c2, if_true]
      exact ev_some _
    · simp only [batonlaw32_InboxTakes.j1, decide_eq_false c2, Bool.false_eq_true, if_false]
      have hwl : ∀ x ∈ held, x.f0 ≤ 9223372036854775807 := fun x hx => (bounds_i64 (hh.2 x hx).1).2
      apply ev_succ
      simp only [batonlaw32_InboxTakes.j2]
      refine ev_bind (Ref_ev next held (by omega)) ?_
      dsimp only
      refine ev_bind (RRight_ev next held (by omega)) ?_
      refine ev_bind (PRight_ev next held (by omega) hwl) ?_
      simp only [bne_self_eq_false, Bool.false_eq_true, if_false]
      apply ev_succ
      simp only [batonlaw32_InboxTakes.j3]
      by_cases c3 : okB next held
      · simp only [decide_eq_true c3, if_true]
        obtain ⟨n', l', o, e, h1, h2, h3, h4, h5⟩ := Take_both next held first room b c3 (by omega) (by omega) bf.2
        apply ev_succ
        simp only [batonlaw32_InboxTakes.j4]
        refine ev_bind h1 ?_
        refine ev_bind h2 ?_
        simp only [if_true]
        refine ev_bind (Ref_ev n' l' (by omega)) ?_
        dsimp only
        refine ev_bind (RSame_ev n' (l'.map cv) (by simp; omega)) ?_
        simp only [if_true]
        refine ev_bind (ev_eq (Same_ev o o (by omega)) (show decide (o = o) = true by simp)) ?_
        simp only [if_true]
        refine ev_bind (ev_eq (PRight_ev n' l' (by omega) (fun x hx => by
          have := ((okH_iff n' l' n').1 h3.2.2).2 x hx
          omega)) (decide_eq_true h3)) ?_
        simp only [if_true]
        refine ev_bind (Ref_ev next held (by omega)) ?_
        dsimp only
        refine ev_bind (RSame_ev next (held.map cv) (by simp; omega)) ?_
        exact ev_some _
      · simp only [decide_eq_false c3, Bool.false_eq_true, if_false]
        exact ev_some _

end Go.Proofs.Ytdbfclfglpbpmaa.Pure
