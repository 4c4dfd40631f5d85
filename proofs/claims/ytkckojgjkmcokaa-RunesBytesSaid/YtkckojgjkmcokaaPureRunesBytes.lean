/- The law RunesBytes, of plain numbers: the bytes of any number are what the page says, and are read as it, if it is a sign. No condition beside the sizes that the row itself gives. -/
import Derived.Test.YtkckojgjkmcokaaLF08B
namespace Go.Proofs.Ytkckojgjkmcokaa.Pure
open Go.RowKit Go.Proofs.Ytkckojgjkmcokaa.Base Go.Proofs.YtkckojgjkmcokaaW.PrintWords Go.Proofs.YtkckojgjkmcokaaW.PrintMore Go.Proofs.Ytkckojgjkmcokaa.PF08B
set_option linter.unusedVariables false
set_option linter.unusedSimpArgs false
open Go.Proofs.Ytkckojgjkmcokaa.LF08B

theorem tells_wh : ∀ x, wh x → tells [] x = [cp x]
  | [], h => h.elim
  | [a], h => by
    show (refPut [] a).2 ++ tells (refPut [] a).1 [] = _
    rw [refPut_whole (W := []) (show wh [a] from h)]
    rfl
  | [a, b], h => by
    have h' := (wh2_iff a b).1 h
    show (refPut [] a).2 ++ tells (refPut [] a).1 [b] = _
    rw [refPut_beg (W := []) (show ¬ wh [a] from fun h : a < 128 => by omega) (show beg [a] from ⟨by omega, by omega⟩)]
    show (refPut [a] b).2 ++ tells (refPut [a] b).1 [] = _
    rw [refPut_whole (W := [a]) (show wh [a, b] from h)]
    rfl
  | [a, b, c], h => by
    have h' := (wh3_iff a b c).1 h
    show (refPut [] a).2 ++ tells (refPut [] a).1 [b, c] = _
    rw [refPut_beg (W := []) (show ¬ wh [a] from fun h : a < 128 => by omega) (show beg [a] from ⟨by omega, by omega⟩)]
    show (refPut [a] b).2 ++ tells (refPut [a] b).1 [c] = _
    rw [refPut_beg (W := [a]) (show ¬ wh [a, b] from fun h => by have := (wh2_iff a b).1 h; omega) (show beg [a, b] from .inl ⟨h'.1, h'.2.1, h'.2.2.1, h'.2.2.2.1⟩)]
    show (refPut [a, b] c).2 ++ tells (refPut [a, b] c).1 [] = _
    rw [refPut_whole (W := [a, b]) (show wh [a, b, c] from h)]
    rfl
  | [a, b, c, d], h => by
    have h' := (wh4_iff a b c d).1 h
    show (refPut [] a).2 ++ tells (refPut [] a).1 [b, c, d] = _
    rw [refPut_beg (W := []) (show ¬ wh [a] from fun h : a < 128 => by omega) (show beg [a] from ⟨by omega, by omega⟩)]
    show (refPut [a] b).2 ++ tells (refPut [a] b).1 [c, d] = _
    rw [refPut_beg (W := [a]) (show ¬ wh [a, b] from fun h => by have := (wh2_iff a b).1 h; omega) (show beg [a, b] from .inr ⟨h'.1, h'.2.1, h'.2.2.1, h'.2.2.2.1⟩)]
    show (refPut [a, b] c).2 ++ tells (refPut [a, b] c).1 [d] = _
    rw [refPut_beg (W := [a, b]) (show ¬ wh [a, b, c] from fun h => by have := (wh3_iff a b c).1 h; omega) (show beg [a, b, c] from ⟨h'.1, h'.2.1, h'.2.2.1, h'.2.2.2.1, h'.2.2.2.2.1, h'.2.2.2.2.2.1⟩)]
    show (refPut [a, b, c] d).2 ++ tells (refPut [a, b, c] d).1 [] = _
    rw [refPut_whole (W := [a, b, c]) (show wh [a, b, c, d] from h)]
    rfl
  | _ :: _ :: _ :: _ :: _ :: _, h => h.elim
theorem RunesBytes : batonlaw08_RunesBytes.Pure := by
  intro a ha
  have hr := bounds_i32 ha
  refine Ev.rounds ?_
  unfold batonlaw08_RunesBytes.f
  refine ev_bind awake08 ?_
  have hs := Same_ev (enc' a) (enc' a) (by have := enc'_len a; omega)
  rw [decide_eq_true rfl] at hs
  simp only [if_true, RBytes_f, Option.bind_some]
  refine ev_bind (All_ev (enc' a) (by have := enc'_len a; omega) (enc'_bytes a)) ?_
  simp only [w64 (x := a) (by omega) (by omega), Sign_f, Option.bind_some, decide_eq_true_eq]
  by_cases h : sign a
  · have ht : tells [] (enc' a) = [a] := by
      unfold enc'
      rw [if_pos h, tells_wh _ (whenc a h).1, (whenc a h).2]
    simp only [if_pos h, ht]
    refine ev_bind (Bytes_ev a) (ev_bind hs ?_)
    simp only [if_true, List.length_singleton, if_pos (show ((1 : Nat) : Int) = 1 from rfl), if_pos (show (0 : Int) < ((1 : Nat) : Int) by decide)]
    exact ev_eq (ev_some _) (by simp [rd])
  · have ht : tells [] (enc' a) = [65533] := by
      unfold enc'
      rw [if_neg h, tells_wh _ (whenc _ sign65533).1, (whenc _ sign65533).2]
    simp only [if_neg h, ht]
    refine ev_bind (Bytes_ev a) (ev_bind hs ?_)
    simp only [if_true, List.length_singleton, if_pos (show ((1 : Nat) : Int) = 1 from rfl), if_pos (show (0 : Int) < ((1 : Nat) : Int) by decide)]
    exact ev_eq (ev_some _) (by simp [rd])

end Go.Proofs.Ytkckojgjkmcokaa.Pure
