/- The law TabsMoves, of plain lists: where any number of tabs leads, on or back, is what the page says. No condition beside the sizes that the row itself gives. -/
import Derived.Test.YtgnbhomdkchcfaaLF11M
namespace Go.Proofs.Ytgnbhomdkchcfaa.Pure
open Go.RowKit Go.Proofs.Ytgnbhomdkchcfaa.Base Go.Proofs.YtgnbhomdkchcfaaW.PrintWords Go.Proofs.YtgnbhomdkchcfaaW.PrintMore Go.Proofs.Ytgnbhomdkchcfaa.PF11M
set_option linter.unusedVariables false
set_option linter.unusedSimpArgs false
open Go.Proofs.Ytgnbhomdkchcfaa.LF11M

theorem awake11 : Ev (fun k => batonlaw11_awake.f k) true := Ev.of (fun k => batonlaw11_awake.mono k) (k := 40) (by decide +kernel)
theorem do01_ok (cols : Int) (l : List Int) (w : List Bool) (kind N : Int) (hk : kind = 0 ∨ kind = 1) (hA : Agr cols l w) (hl : l.length ≤ 50000) : ∃ l' w', Ev (fun k => batonlaw11_do.f k cols l w kind N) (w', true, cols, l') ∧ Agr cols l' w' ∧ l'.length ≤ l.length + 20 := by
  have hlen := hA.len
  have h0 := hA.c0
  have h1 := hA.c1
  have hwl : ([] : List Bool).length + w.length < 140737488355328 := by simp; omega
  by_cases k0 : kind = 0
  · obtain ⟨r, e, s, n, m⟩ := Set_ev cols l N hA.srt (by omega)
    have enter : ∀ x, Ev (fun k => batonlaw11_do.j0 k w kind true cols l kind N) x → Ev (fun k => batonlaw11_do.f k cols l w kind N) x := fun x hx => by
      unfold batonlaw11_do.f
      simp only [if_pos k0, show (kind == 0) = true by rw [k0]; rfl]
      exact hx
    by_cases c1 : N ≥ 0 ∧ N < (w.length : Int)
    · refine ⟨r, w.set N.toNat true, enter _ ?_, ⟨s, h0, h1, by rw [List.length_set]; exact hlen, fun c hc => ?_⟩, by omega⟩
      · apply ev_succ
        simp only [batonlaw11_do.j0, if_true, if_pos k0]
        refine ev_bind e ?_
        simp only [Option.bind_some, if_pos hwl, List.nil_append, if_pos c1.1, if_pos c1.2, show (kind == 0) = true by rw [k0]; rfl]
        exact ev_some _
      · rw [List.length_set] at hc
        rw [List.getElem_set]
        by_cases e2 : N.toNat = c
        · rw [if_pos e2]
          exact (decide_eq_true ((m c).2 (.inr ⟨by omega, c1.1, by omega⟩))).symm
        · rw [if_neg e2, hA.at_ c hc]
          exact dec_eq ⟨fun h => (m c).2 (.inl h), fun h => ((m c).1 h).elim id (fun h => absurd h.1 (by omega))⟩
    · refine ⟨r, w, enter _ ?_, ⟨s, h0, h1, hlen, fun c hc => ?_⟩, by omega⟩
      · apply ev_succ
        simp only [batonlaw11_do.j0, if_true, if_pos k0]
        refine ev_bind e ?_
        simp only [Option.bind_some, if_pos hwl, List.nil_append]
        by_cases c2 : N ≥ 0
        · simp only [if_pos c2, if_neg (show ¬ N < (w.length : Int) from fun h => c1 ⟨c2, h⟩)]
          exact ev_some _
        · simp only [if_neg c2]
          exact ev_some _
      · rw [hA.at_ c hc]
        exact dec_eq ⟨fun h => (m c).2 (.inl h), fun h => ((m c).1 h).elim id (fun h => absurd ⟨h.2.1, by omega⟩ c1)⟩
  have k1 : kind = 1 := hk.elim (fun h => absurd h k0) id
  · obtain ⟨r, e, s, n, m⟩ := Clear_ev cols l N hA.srt (by omega)
    have enter : ∀ x, Ev (fun k => batonlaw11_do.j0 k w kind true cols l kind N) x → Ev (fun k => batonlaw11_do.f k cols l w kind N) x := fun x hx => by
      unfold batonlaw11_do.f
      simp only [if_neg k0, show (kind == 1) = true by rw [k1]; rfl]
      exact hx
    by_cases c1 : N ≥ 0 ∧ N < (w.length : Int)
    · refine ⟨r, w.set N.toNat false, enter _ ?_, ⟨s, h0, h1, by rw [List.length_set]; exact hlen, fun c hc => ?_⟩, by omega⟩
      · apply ev_succ
        simp only [batonlaw11_do.j0, if_true, if_neg k0]
        refine ev_bind e ?_
        simp only [Option.bind_some, if_pos hwl, List.nil_append, if_pos c1.1, if_pos c1.2, show (kind == 0) = false by rw [k1]; rfl]
        exact ev_some _
      · rw [List.length_set] at hc
        rw [List.getElem_set]
        by_cases e2 : N.toNat = c
        · rw [if_pos e2]
          exact (decide_eq_false (fun h => ((m c).1 h).2 (by omega))).symm
        · rw [if_neg e2, hA.at_ c hc]
          exact dec_eq ⟨fun h => (m c).2 ⟨h, by omega⟩, fun h => ((m c).1 h).1⟩
    · refine ⟨r, w, enter _ ?_, ⟨s, h0, h1, hlen, fun c hc => ?_⟩, by omega⟩
      · apply ev_succ
        simp only [batonlaw11_do.j0, if_true, if_neg k0]
        refine ev_bind e ?_
        simp only [Option.bind_some, if_pos hwl, List.nil_append]
        by_cases c2 : N ≥ 0
        · simp only [if_pos c2, if_neg (show ¬ N < (w.length : Int) from fun h => c1 ⟨c2, h⟩)]
          exact ev_some _
        · simp only [if_neg c2]
          exact ev_some _
      · rw [hA.at_ c hc]
        exact dec_eq ⟨fun h => (m c).2 ⟨h, fun e => c1 ⟨by omega, by omega⟩⟩, fun h => ((m c).1 h).1⟩
theorem Nx_eq {cols : Int} {l : List Int} {c a b : Int} (ha : Nx cols l c a) (hb : Nx cols l c b) : a = b := by
  obtain ⟨a1, a2, a3, a4⟩ := ha
  obtain ⟨b1, b2, b3, b4⟩ := hb
  have h1 : b ≤ a := a3.elim (fun h => by omega) (fun h => b4 a h a1)
  have h2 : a ≤ b := b3.elim (fun h => by omega) (fun h => a4 b h b1)
  omega
theorem Bk_eq {l : List Int} {c a b : Int} (ha : Bk l c a) (hb : Bk l c b) : a = b := by
  obtain ⟨a1, a2, a3, a4⟩ := ha
  obtain ⟨b1, b2, b3, b4⟩ := hb
  have h1 : a ≤ b := a3.elim (fun h => by omega) (fun h => b4 a h a1)
  have h2 : b ≤ a := b3.elim (fun h => by omega) (fun h => a4 b h b1)
  omega
theorem rdw {cols : Int} {l : List Int} {w : List Bool} (hA : Agr cols l w) (j : Nat) (hj : j < w.length) : rdOf false w (j : Int) = decide ((j : Int) ∈ l) := by
  rw [← hA.at_ j hj]
  unfold rdOf
  simp [List.getD_eq_getElem?_getD, hj]
theorem RN_l0 {cols : Int} {l : List Int} {w : List Bool} (hA : Agr cols l w) (c : Int) (h1 : c < cols - 1) : ∀ (d j : Nat), w.length - j = d → j ≤ w.length → c < (j : Int) → (∀ x ∈ l, c < x → (j : Int) ≤ x) → ∃ c', Ev (fun k => batonref11_Next.l0 k w (j : Int)) c' ∧ Nx cols l c c' := by
  have hlen := hA.len
  have hc1 := hA.c1
  intro d
  induction d with
  | zero =>
    intro j hd hj hc hx
    obtain rfl : j = w.length := by omega
    have hw : wrap64 ((w.length : Int) - 1) = cols - 1 := by rw [w64 (by omega) (by omega)]; omega
    refine ⟨cols - 1, ?_, h1, by omega, .inl rfl, fun x hxl hcx => by have := hx x hxl hcx; have := (hA.srt.rng x hxl).2; omega⟩
    apply ev_succ
    simp only [batonref11_Next.l0, if_neg (show ¬ ((w.length : Int) < (w.length : Int)) by omega), hw]
    exact ev_some _
  | succ d ih =>
    intro j hd hj hc hx
    have hlt : j < w.length := by omega
    have hw : wrap64 ((j : Int) + 1) = ((j + 1 : Nat) : Int) := by rw [w64 (by omega) (by omega)]; omega
    by_cases hm : (j : Int) ∈ l
    · refine ⟨(j : Int), ?_, hc, by omega, .inr hm, fun x hxl hcx => hx x hxl hcx⟩
      apply ev_succ
      simp only [batonref11_Next.l0, if_pos (show (j : Int) < (w.length : Int) by omega), if_pos (show (0 : Int) ≤ (j : Int) by omega), rdw hA j hlt, decide_eq_true hm, if_true]
      exact ev_some _
    · obtain ⟨c', e, hN⟩ := ih (j + 1) (by omega) (by omega) (by omega) (fun x hxl hcx => by
        have h2 := hx x hxl hcx
        have h3 : x ≠ (j : Int) := fun e => hm (e ▸ hxl)
        omega)
      refine ⟨c', ?_, hN⟩
      apply ev_succ
      simp only [batonref11_Next.l0, if_pos (show (j : Int) < (w.length : Int) by omega), if_pos (show (0 : Int) ≤ (j : Int) by omega), rdw hA j hlt, decide_eq_false hm, Bool.false_eq_true, if_false, hw]
      exact e
theorem RN_ev {cols : Int} {l : List Int} {w : List Bool} (hA : Agr cols l w) (c : Int) (h0 : 0 ≤ c) (h1 : c < cols - 1) : ∃ c', Ev (fun k => batonref11_Next.f k w c) c' ∧ Nx cols l c c' := by
  have hc1 := hA.c1
  have hlen := hA.len
  obtain ⟨n, rfl⟩ := Int.eq_ofNat_of_zero_le h0
  have hw : wrap64 ((n : Int) + 1) = ((n + 1 : Nat) : Int) := by rw [w64 (by omega) (by omega)]; omega
  unfold batonref11_Next.f
  rw [hw]
  exact RN_l0 hA (n : Int) h1 _ (n + 1) rfl (by omega) (by omega) (fun x _ h => by omega)
theorem RN_end {cols : Int} {l : List Int} {w : List Bool} (hA : Agr cols l w) : Ev (fun k => batonref11_Next.f k w (cols - 1)) (cols - 1) := by
  have hc0 := hA.c0
  have hc1 := hA.c1
  have hlen := hA.len
  have hw : wrap64 (cols - 1 + 1) = cols := by rw [w64 (by omega) (by omega)]; omega
  have hw2 : wrap64 ((w.length : Int) - 1) = cols - 1 := by rw [w64 (by omega) (by omega)]; omega
  unfold batonref11_Next.f
  rw [hw]
  apply ev_succ
  simp only [batonref11_Next.l0, if_neg (show ¬ cols < (w.length : Int) by omega), hw2]
  exact ev_some _
theorem RB_l0 {cols : Int} {l : List Int} {w : List Bool} (hA : Agr cols l w) (c : Int) (h1 : c < cols) : ∀ (j : Nat), (j : Int) < c → (∀ x ∈ l, x < c → x ≤ (j : Int)) → ∃ c', Ev (fun k => batonref11_Back.l0 k w (j : Int)) c' ∧ Bk l c c' := by
  have hlen := hA.len
  have hc1 := hA.c1
  intro j
  induction j with
  | zero =>
    intro hj hx
    refine ⟨0, ?_, hj, by omega, .inl rfl, fun x hxl h => hx x hxl h⟩
    apply ev_succ
    simp only [batonref11_Back.l0, if_neg (show ¬ ((0 : Nat) : Int) > 0 by omega)]
    exact ev_some _
  | succ j ih =>
    intro hj hx
    have hlt : j + 1 < w.length := by omega
    have hw : wrap64 (((j + 1 : Nat) : Int) - 1) = (j : Int) := by rw [w64 (by omega) (by omega)]; omega
    by_cases hm : ((j + 1 : Nat) : Int) ∈ l
    · refine ⟨((j + 1 : Nat) : Int), ?_, hj, by omega, .inr hm, fun x hxl h => hx x hxl h⟩
      apply ev_succ
      simp only [batonref11_Back.l0, if_pos (show ((j + 1 : Nat) : Int) > 0 by omega), if_pos (show (0 : Int) ≤ ((j + 1 : Nat) : Int) by omega), if_pos (show ((j + 1 : Nat) : Int) < (w.length : Int) by omega), rdw hA (j + 1) hlt, decide_eq_true hm, if_true]
      exact ev_some _
    · obtain ⟨c', e, hN⟩ := ih (by omega) (fun x hxl h => by
        have h2 := hx x hxl h
        have h3 : x ≠ ((j + 1 : Nat) : Int) := fun e => hm (e ▸ hxl)
        omega)
      refine ⟨c', ?_, hN⟩
      apply ev_succ
      simp only [batonref11_Back.l0, if_pos (show ((j + 1 : Nat) : Int) > 0 by omega), if_pos (show (0 : Int) ≤ ((j + 1 : Nat) : Int) by omega), if_pos (show ((j + 1 : Nat) : Int) < (w.length : Int) by omega), rdw hA (j + 1) hlt, decide_eq_false hm, Bool.false_eq_true, if_false, hw]
      exact e
theorem RB_ev {cols : Int} {l : List Int} {w : List Bool} (hA : Agr cols l w) (c : Int) (h0 : 0 < c) (h1 : c < cols) : ∃ c', Ev (fun k => batonref11_Back.f k w c) c' ∧ Bk l c c' := by
  have hc1 := hA.c1
  obtain ⟨n, hn⟩ := Int.eq_ofNat_of_zero_le (show 0 ≤ c - 1 by omega)
  have hw : wrap64 (c - 1) = (n : Int) := by rw [w64 (by omega) (by omega)]; omega
  unfold batonref11_Back.f
  rw [hw]
  exact RB_l0 hA c h1 n (by omega) (fun x _ h => by omega)
theorem RB_end (w : List Bool) : Ev (fun k => batonref11_Back.f k w 0) 0 := by
  have hw : wrap64 ((0 : Int) - 1) = -1 := by rw [w64 (by omega) (by omega)]; rfl
  unfold batonref11_Back.f
  rw [hw]
  apply ev_succ
  simp only [batonref11_Back.l0, if_neg (show ¬ (-1 : Int) > 0 by omega)]
  exact ev_some _
def PN (cols : Int) (l : List Int) (c0 n : Int) (i : Nat) (on : Int) : Prop := (on < cols - 1 ∧ (i : Int) ≤ on ∧ ∀ r, Ev (fun k => tabs_Stops_Next.l0 k on (n - i) cols l) r → Ev (fun k => tabs_Stops_Next.l0 k c0 n cols l) r) ∨ (on = cols - 1 ∧ Ev (fun k => tabs_Stops_Next.l0 k c0 n cols l) (on, cols, l))
def PB (cols : Int) (l : List Int) (c0 n : Int) (i : Nat) (back : Int) : Prop := (0 < back ∧ back + i ≤ 190 ∧ ∀ r, Ev (fun k => tabs_Stops_Back.l0 k back (n - i) cols l) r → Ev (fun k => tabs_Stops_Back.l0 k c0 n cols l) r) ∨ (back = 0 ∧ Ev (fun k => tabs_Stops_Back.l0 k c0 n cols l) (back, cols, l))
theorem PN_step {cols : Int} {l : List Int} {w : List Bool} (hA : Agr cols l w) (hl : l.length ≤ 90000) (c0 n : Int) (hn : n ≤ 9223372036854775807) (i : Nat) (on : Int) (h0 : 0 ≤ on) (h1 : on < cols) (hi : (i : Int) < n) (hP : PN cols l c0 n i on) : ∃ on', Ev (fun k => batonref11_Next.f k w on) on' ∧ 0 ≤ on' ∧ on' < cols ∧ PN cols l c0 n (i + 1) on' := by
  have e1 : n - (i : Int) - 1 = n - ((i + 1 : Nat) : Int) := by omega
  rcases hP with ⟨p1, p2, p3⟩ | ⟨p1, p2⟩
  · obtain ⟨c', e, hN⟩ := RN_ev hA on h0 p1
    obtain ⟨c2, hN2, hstep⟩ := Next_step cols l hA.srt hl hA.c1 on (n - i) (by omega) (by omega) h0 p1
    obtain rfl := Nx_eq hN hN2
    rw [e1] at hstep
    refine ⟨c', e, by have := hN.1; omega, hN.2.1, ?_⟩
    by_cases c : c' < cols - 1
    · exact .inl ⟨c, by have := hN.1; omega, fun r hr => p3 r (hstep r hr)⟩
    · exact .inr ⟨by have := hN.2.1; omega, p3 _ (hstep _ (Next_end cols l hA.c0 hA.c1 c' _ (fun h => c h.2)))⟩
  · exact ⟨on, by rw [p1]; exact RN_end hA, h0, h1, .inr ⟨p1, p2⟩⟩
theorem PB_step {cols : Int} {l : List Int} {w : List Bool} (hA : Agr cols l w) (hl : l.length ≤ 90000) (c0 n : Int) (hn : n ≤ 9223372036854775807) (i : Nat) (back : Int) (h0 : 0 ≤ back) (h1 : back < cols) (hi : (i : Int) < n) (hP : PB cols l c0 n i back) : ∃ back', Ev (fun k => batonref11_Back.f k w back) back' ∧ 0 ≤ back' ∧ back' < cols ∧ PB cols l c0 n (i + 1) back' := by
  have e1 : n - (i : Int) - 1 = n - ((i + 1 : Nat) : Int) := by omega
  rcases hP with ⟨p1, p2, p3⟩ | ⟨p1, p2⟩
  · obtain ⟨c', e, hN⟩ := RB_ev hA back p1 h1
    obtain ⟨c2, hN2, hstep⟩ := Back_step cols l hA.srt hl back (n - i) (by omega) (by omega) p1
    obtain rfl := Bk_eq hN hN2
    rw [e1] at hstep
    refine ⟨c', e, hN.2.1, by have := hN.1; omega, ?_⟩
    by_cases c : 0 < c'
    · exact .inl ⟨c, by have := hN.1; omega, fun r hr => p3 r (hstep r hr)⟩
    · exact .inr ⟨by have := hN.2.1; omega, p3 _ (hstep _ (Back_end cols l c' _ (fun h => c h.2)))⟩
  · exact ⟨back, by rw [p1]; exact RB_end w, h0, h1, .inr ⟨p1, p2⟩⟩
theorem Moves_l1 (a n : Int) (hn : n ≤ 9223372036854775807) {cols : Int} {l : List Int} {w : List Bool} (hA : Agr cols l w) (hl : l.length ≤ 90000) (c0 : Int) (hN' : ∀ r, Ev (fun k => tabs_Stops_Next.l0 k c0 n cols l) r → Ev (fun k => tabs_Stops_Next.f k cols l a n) r) (hB' : ∀ r, Ev (fun k => tabs_Stops_Back.l0 k c0 n cols l) r → Ev (fun k => tabs_Stops_Back.f k cols l a n) r) : ∀ (d i : Nat) (on back : Int), 200 - i = d → i ≤ 200 → 0 ≤ on → on < cols → 0 ≤ back → back < cols → PN cols l c0 n i on → PB cols l c0 n i back → Ev (fun k => batonlaw11_TabsMoves.l1 k w n on back (i : Int) a n cols l) true := by
  have hc1 := hA.c1
  have fin : ∀ (i : Nat) (on back : Int), on < cols → 0 ≤ back → (n ≤ (i : Int) ∨ 200 ≤ i) → PN cols l c0 n i on → PB cols l c0 n i back → Ev (fun k => batonlaw11_TabsMoves.j4 k w n on back (i : Int) false a n cols l) true := fun i on back h1 h2 hi hN hB => by
    have eN : Ev (fun k => tabs_Stops_Next.f k cols l a n) (on, cols, l) := by
      refine hN' _ ?_
      rcases hN with ⟨p1, p2, p3⟩ | ⟨p1, p2⟩
      · exact p3 _ (Next_end cols l hA.c0 hA.c1 on (n - i) (fun h => by omega))
      · exact p2
    have eB : Ev (fun k => tabs_Stops_Back.f k cols l a n) (back, cols, l) := by
      refine hB' _ ?_
      rcases hB with ⟨p1, p2, p3⟩ | ⟨p1, p2⟩
      · exact p3 _ (Back_end cols l back (n - i) (fun h => by omega))
      · exact p2
    apply ev_succ
    simp only [batonlaw11_TabsMoves.j4, Bool.false_eq_true, if_false]
    refine ev_bind eN ?_
    simp only [if_true]
    refine ev_bind eB ?_
    exact ev_eq (ev_some _) (by simp)
  intro d
  induction d with
  | zero =>
    intro i on back hd hi a1 a2 b1 b2 hN hB
    have h := fin i on back a2 b1 (.inr (by omega)) hN hB
    apply ev_succ
    by_cases c : (i : Int) < n
    · simp only [batonlaw11_TabsMoves.l1, if_pos c, decide_eq_false (show ¬ (i : Int) < 200 by omega)]
      exact h
    · simp only [batonlaw11_TabsMoves.l1, if_neg c]
      exact h
  | succ d ih =>
    intro i on back hd hi a1 a2 b1 b2 hN hB
    have hw : wrap64 ((i : Int) + 1) = ((i + 1 : Nat) : Int) := by rw [w64 (by omega) (by omega)]; omega
    apply ev_succ
    by_cases c : (i : Int) < n
    · obtain ⟨on', e1, x1, x2, x3⟩ := PN_step hA hl c0 n hn i on a1 a2 c hN
      obtain ⟨back', e2, y1, y2, y3⟩ := PB_step hA hl c0 n hn i back b1 b2 c hB
      simp only [batonlaw11_TabsMoves.l1, if_pos c, decide_eq_true (show (i : Int) < 200 by omega)]
      apply ev_succ
      simp only [batonlaw11_TabsMoves.j4, if_true, hw]
      refine ev_bind e1 ?_
      refine ev_bind e2 ?_
      exact ih (i + 1) on' back' (by omega) (by omega) x1 x2 y1 y2 x3 y3
    · simp only [batonlaw11_TabsMoves.l1, if_neg c]
      exact fin i on back a2 b1 (.inl (by omega)) hN hB
theorem tmod2 (i : Nat) : Int.tmod (i : Int) 2 = 0 ∨ Int.tmod (i : Int) 2 = 1 := by
  rw [Int.tmod_eq_emod_of_nonneg (by omega)]
  omega
theorem Moves_l0 (a n : Int) (hn : n ≤ 9223372036854775807) (stops : List Int) (hs : stops.length ≤ 30) (cols : Int) : ∀ (d i : Nat) (l : List Int) (w : List Bool), stops.length - i = d → i ≤ stops.length → Agr cols l w → l.length ≤ 20 + 20 * i → Ev (fun k => batonlaw11_TabsMoves.l0 k cols stops w (i : Int) a n cols l) true := by
  intro d
  induction d with
  | zero =>
    intro i l w hd hi hA hl
    obtain rfl : i = stops.length := by omega
    have hc0 := hA.c0
    have hc1 := hA.c1
    have hwc : wrap64 (cols - 1) = cols - 1 := w64 (by omega) (by omega)
    obtain ⟨c0, hc, g0, g1⟩ : ∃ c0, mn (mx a 0) (wrap64 (cols - 1)) = c0 ∧ 0 ≤ c0 ∧ c0 < cols := by
      refine ⟨_, rfl, ?_, ?_⟩ <;> (rw [hwc]; unfold mx mn; repeat' split) <;> omega
    have hN' : ∀ r, Ev (fun k => tabs_Stops_Next.l0 k c0 n cols l) r → Ev (fun k => tabs_Stops_Next.f k cols l a n) r := fun r hr => by
      unfold tabs_Stops_Next.f
      rw [hc]
      exact hr
    have hB' : ∀ r, Ev (fun k => tabs_Stops_Back.l0 k c0 n cols l) r → Ev (fun k => tabs_Stops_Back.f k cols l a n) r := fun r hr => by
      unfold tabs_Stops_Back.f
      rw [hc]
      exact hr
    apply ev_succ
    simp only [batonlaw11_TabsMoves.l0, if_neg (show ¬ ((stops.length : Int) < (stops.length : Int)) from Int.lt_irrefl _), hc]
    clear hc hwc
    refine Moves_l1 a n hn hA (by omega) c0 hN' hB' 200 0 c0 c0 (by omega) (by omega) g0 g1 g0 g1 ?_ ?_
    · by_cases c : c0 < cols - 1
      · exact .inl ⟨c, by omega, fun r hr => by simpa using hr⟩
      · exact .inr ⟨by omega, Next_end cols l hc0 hc1 c0 n (fun h => c h.2)⟩
    · by_cases c : 0 < c0
      · exact .inl ⟨c, by omega, fun r hr => by simpa using hr⟩
      · exact .inr ⟨by omega, Back_end cols l c0 n (fun h => c h.2)⟩
  | succ d ih =>
    intro i l w hd hi hA hl
    have hlt : i < stops.length := by omega
    have hw : wrap64 ((i : Int) + 1) = ((i + 1 : Nat) : Int) := by rw [w64 (by omega) (by omega)]; omega
    obtain ⟨l', w', e, hA', hl'⟩ := do01_ok cols l w (Int.tmod (i : Int) 2) stops[i] (tmod2 i) hA (by omega)
    apply ev_succ
    simp only [batonlaw11_TabsMoves.l0, if_pos (show (i : Int) < (stops.length : Int) by omega), if_pos (show (0 : Int) ≤ (i : Int) by omega), rd_lt hlt, hw]
    refine ev_bind e ?_
    exact ih (i + 1) l' w' (by omega) (by omega) hA' (by omega)
theorem TabsMoves : batonlaw11_TabsMoves.Pure := by
  intro cols stops a n hcw hs ha hnw
  have hn := bounds_i64 hnw
  refine Ev.rounds ?_
  unfold batonlaw11_TabsMoves.f
  refine ev_bind awake11 ?_
  simp only [if_true]
  have skip : Ev (fun k => batonlaw11_TabsMoves.j0 k cols stops true a n) true := by
    apply ev_succ
    simp only [batonlaw11_TabsMoves.j0, if_true]
    exact ev_some _
  by_cases c1 : cols < 1
  · simp only [if_pos c1]
    exact skip
  by_cases c2 : cols > 132
  · simp only [if_neg c1, if_pos c2]
    exact skip
  simp only [if_neg c1, if_neg c2]
  by_cases c3 : (stops.length : Int) > 30
  · rw [decide_eq_true c3]
    exact skip
  rw [decide_eq_false c3]
  obtain ⟨r, w, e, e2, hA, hl⟩ := New_agr cols (by omega) (by omega)
  apply ev_succ
  simp only [batonlaw11_TabsMoves.j0, Bool.false_eq_true, if_false]
  refine ev_bind e ?_
  simp only [if_true]
  apply ev_succ
  simp only [batonlaw11_TabsMoves.j1, Bool.false_eq_true, if_false]
  refine ev_bind e2 ?_
  exact Moves_l0 a n (by omega) stops (by omega) cols stops.length 0 r w (by omega) (by omega) hA (by omega)

end Go.Proofs.Ytgnbhomdkchcfaa.Pure
