/- The law TabsPlays, of plain lists: where tabs stop behind any ops is what the page says. No condition beside the sizes that the row itself gives. -/
import Derived.Test.YtgnbhomdkchcfaaLF11P
namespace Go.Proofs.Ytgnbhomdkchcfaa.Pure
open Go.RowKit Go.Proofs.Ytgnbhomdkchcfaa.Base Go.Proofs.YtgnbhomdkchcfaaW.PrintWords Go.Proofs.YtgnbhomdkchcfaaW.PrintMore Go.Proofs.Ytgnbhomdkchcfaa.PF11P
set_option linter.unusedVariables false
set_option linter.unusedSimpArgs false
open Go.Proofs.Ytgnbhomdkchcfaa.LF11P

theorem awake11 : Ev (fun k => batonlaw11_awake.f k) true := Ev.of (fun k => batonlaw11_awake.mono k) (k := 40) (by decide +kernel)
theorem rd38 (l : List S38) (i : Nat) (h : i < l.length) : rd_T38 l (i : Int) = l[i] := by
  unfold rd_T38
  simp [List.getD_eq_getElem?_getD, h]
theorem Plays_l1 (ops : List S38) (at_ : Int) (cols : Int) (l : List Int) (w : List Bool) (hA : Agr cols l w) (hl : l.length ≤ 60000) (next : Ev (fun k => batonlaw11_TabsPlays.l0 k ops w (wrap64 (at_ + 1)) cols l) true) : ∀ (d c : Nat) (i : Nat), w.length - c = d → c ≤ w.length → At l (c : Int) i → Ev (fun k => batonlaw11_TabsPlays.l1 k ops w at_ true l (i : Int) (c : Int) cols l) true := by
  have hlen := hA.len
  have h1 := hA.c1
  intro d
  induction d with
  | zero =>
    intro c i hd hc hi
    obtain rfl : c = w.length := by omega
    have hil : i = l.length := by
      refine Nat.le_antisymm hi.le (Nat.le_of_not_lt (fun h => ?_))
      have h2 := hi.hi i h (Nat.le_refl _)
      have h3 := (hA.srt.rng _ (List.getElem_mem h)).2
      omega
    apply ev_succ
    simp only [batonlaw11_TabsPlays.l1, if_neg (show ¬ ((w.length : Int) < (w.length : Int)) by omega)]
    apply ev_succ
    simp only [batonlaw11_TabsPlays.j4, Bool.false_eq_true, if_false, if_true, if_pos (show (i : Int) = (l.length : Int) by omega)]
    exact next
  | succ d ih =>
    intro c i hd hc hi
    have hlt : c < w.length := by omega
    have hw : wrap64 ((c : Int) + 1) = ((c + 1 : Nat) : Int) := by rw [w64 (by omega) (by omega)]; omega
    have hwi : wrap64 ((i : Int) + 1) = ((i + 1 : Nat) : Int) := by have := hi.le; rw [w64 (by omega) (by omega)]; omega
    have hrd : rdOf false w (c : Int) = decide ((c : Int) ∈ l) := by
      rw [← hA.at_ c hlt]
      unfold rdOf
      simp [List.getD_eq_getElem?_getD, hlt]
    apply ev_succ
    simp only [batonlaw11_TabsPlays.l1, if_pos (show (c : Int) < (w.length : Int) by omega)]
    apply ev_succ
    simp only [batonlaw11_TabsPlays.j4, if_true, if_pos (show (0 : Int) ≤ (c : Int) by omega), if_pos (show (c : Int) < (w.length : Int) by omega), hrd, hw, hwi]
    by_cases hm : (c : Int) ∈ l
    · have hs := (hi.mem hA.srt.rise).1 hm
      obtain ⟨hil, e⟩ := List.getElem?_eq_some_iff.1 hs
      simp only [decide_eq_true hm, if_true, if_neg (show ¬ (i : Int) ≥ (l.length : Int) by omega), if_pos (show (0 : Int) ≤ (i : Int) by omega), if_pos (show (i : Int) < (l.length : Int) by omega), rd_lt hil, e]
      refine ih (c + 1) (i + 1) (by omega) (by omega) ⟨by omega, fun j hj hji => ?_, fun j hj hji => ?_⟩
      · by_cases e2 : j = i
        · subst e2; omega
        · have := hi.lo j hj (by omega); omega
      · have := rise_lt hA.srt.rise hil hj (by omega)
        omega
    · simp only [decide_eq_false hm, Bool.false_eq_true, if_false]
      refine ih (c + 1) i (by omega) (by omega) ⟨hi.le, fun j hj hji => by have := hi.lo j hj hji; omega, fun j hj hji => ?_⟩
      have h2 := hi.hi j hj hji
      have h3 : l[j] ≠ (c : Int) := fun e => hm (e ▸ List.getElem_mem hj)
      omega
theorem Plays_l0 (ops : List S38) (ho : ops.length ≤ 30) : ∀ (d i : Nat) (cols : Int) (l : List Int) (w : List Bool), ops.length - i = d → i ≤ ops.length → Agr cols l w → l.length ≤ 20 + 20 * i → Ev (fun k => batonlaw11_TabsPlays.l0 k ops w (i : Int) cols l) true := by
  intro d
  induction d with
  | zero =>
    intro i cols l w hd hi hA hl
    obtain rfl : i = ops.length := by omega
    apply ev_succ
    simp only [batonlaw11_TabsPlays.l0, if_neg (show ¬ ((ops.length : Int) < (ops.length : Int)) by omega)]
    exact ev_some _
  | succ d ih =>
    intro i cols l w hd hi hA hl
    have hlt : i < ops.length := by omega
    have hw : wrap64 ((i : Int) + 1) = ((i + 1 : Nat) : Int) := by rw [w64 (by omega) (by omega)]; omega
    obtain ⟨cols', l', w', e, hA', hl'⟩ := do_ok cols l w ops[i].f0 ops[i].f1 hA (by omega)
    apply ev_succ
    simp only [batonlaw11_TabsPlays.l0, if_pos (show (i : Int) < (ops.length : Int) by omega), if_pos (show (0 : Int) ≤ (i : Int) by omega), rd38 ops i hlt]
    refine ev_bind e ?_
    simp only [List_ok cols' l' (by omega), Option.bind_some]
    refine Plays_l1 ops (i : Int) cols' l' w' hA' (by omega) ?_ w'.length 0 0 (by omega) (by omega) ⟨by omega, fun j hj h => absurd h (by omega), fun j hj _ => (hA'.srt.rng _ (List.getElem_mem hj)).1⟩
    rw [hw]
    exact ih (i + 1) cols' l' w' (by omega) (by omega) hA' (by omega)
theorem TabsPlays : batonlaw11_TabsPlays.Pure := by
  intro cols ops hcw hops
  refine Ev.rounds ?_
  unfold batonlaw11_TabsPlays.f
  refine ev_bind awake11 ?_
  simp only [if_true]
  by_cases c0 : (ops.length : Int) > 30
  · simp only [if_pos c0]
    exact ev_some _
  simp only [if_neg c0]
  by_cases c1 : 1 ≤ cols ∧ cols ≤ 132
  · obtain ⟨r, w, e, e2, hA, hl⟩ := New_agr cols c1.1 c1.2
    refine ev_bind e ?_
    simp only [if_true, if_neg (show ¬ cols < 1 by omega), decide_eq_false (show ¬ cols > 132 by omega)]
    apply ev_succ
    simp only [batonlaw11_TabsPlays.j0, Bool.false_eq_true, if_false, if_true]
    apply ev_succ
    simp only [batonlaw11_TabsPlays.j1, Bool.false_eq_true, if_false]
    refine ev_bind e2 ?_
    exact Plays_l0 ops (by omega) ops.length 0 cols r w (by omega) (by omega) hA (by omega)
  · have hn : ∀ k, tabs_New.f k cols = some (false, 0, [], 22) := fun k => by
      unfold tabs_New.f
      simp only [size_f, Option.bind_some, decide_eq_false c1, Bool.false_eq_true, if_false]
    simp only [hn, Option.bind_some, Bool.false_eq_true, if_false]
    by_cases c2 : cols < 1
    · simp only [if_pos c2]
      exact ev_some _
    · simp only [if_neg c2, if_pos (show cols > 132 by omega)]
      exact ev_some _

end Go.Proofs.Ytgnbhomdkchcfaa.Pure
