/- The law WordBytes, of plain lists: Bytes and Words are inverse, and Words takes just the multiples of four. No condition beside the sizes that the row itself gives. -/
import Derived.Test.YtaiiegbhbadciaaLF01
namespace Go.Proofs.Ytaiiegbhbadciaa.Pure
open Go.RowKit Go.Proofs.Ytaiiegbhbadciaa.Base Go.Proofs.YtaiiegbhbadciaaW.PrintWords Go.Proofs.YtaiiegbhbadciaaW.PrintMore Go.Proofs.Ytaiiegbhbadciaa.PF01
set_option linter.unusedVariables false
set_option linter.unusedSimpArgs false
open Go.Proofs.Ytaiiegbhbadciaa.LF01

theorem WordBytes_end (l b : List Int) (hb : Bytes b) (hlb : b.length ≤ 400) (i : Nat) (hi : i = l.length) (x5 x6 : List Int) : Ev (fun k => batonlaw01_WordBytes.l0 k l b x5 x6 (i : Int)) true := by
  subst hi
  apply ev_succ
  simp only [batonlaw01_WordBytes.l0, if_neg (show ¬ ((l.length : Int) < (l.length : Int)) by omega)]
  refine ev_bind (Words_ev b hb (by omega)) ?_
  by_cases c : b.length % 4 = 0
  · have e : wordsSpec b = (wordsL b, 0) := by unfold wordsSpec; rw [if_pos c]
    have hn := words_len (b.length / 4) (b := b) (by omega)
    simp only [e, if_pos (show (b.length : Int) % 4 = 0 by omega), if_true]
    refine ev_bind (Bytes_ev (wordsL b) (by omega)) ?_
    rw [bytes_words (b.length / 4) hb (by omega)]
    exact ev_bind (Same_ev b b (by omega)) (ev_eq (ev_some _) (by simp))
  · have e : wordsSpec b = ([], 4) := by unfold wordsSpec; rw [if_neg c]
    simp only [e, if_neg (show ¬ ((b.length : Int) % 4 = 0) by omega), List.length_nil]
    exact ev_eq (ev_some _) (by decide)
theorem WordBytes_l0 (l b : List Int) (hw : ∀ x ∈ l, 0 ≤ x ∧ x ≤ 4294967295) (hl : l.length ≤ 100) (hb : Bytes b) (hlb : b.length ≤ 400) : ∀ (d i : Nat), l.length - i = d → i ≤ l.length →
    Ev (fun k => batonlaw01_WordBytes.l0 k l b (bytesL l) l (i : Int)) true := by
  intro d
  induction d with
  | zero => exact fun i hd hi => WordBytes_end l b hb hlb i (by omega) _ _
  | succ d ih =>
    intro i hd hi
    have hlt : i < l.length := by omega
    have hx := hw _ (List.getElem_mem hlt)
    have w1 : wrap64 ((i : Int) + 1) = ((i + 1 : Nat) : Int) := by rw [w64 (by omega) (by omega)]; omega
    have w2 : wrap64 (4 * (i : Int)) = ((4 * i : Nat) : Int) := by rw [w64 (by omega) (by omega)]; omega
    have w3 : wrap64 (((4 * i : Nat) : Int) + 4) = ((4 * i + 4 : Nat) : Int) := by rw [w64 (by omega) (by omega)]; omega
    have hlen := bytesL_len l
    have hcut : ((bytesL l).take (4 * i + 4)).drop (4 * i) = four l[i] := by
      rw [List.drop_take, bytesL_at l i hlt, show 4 * i + 4 - 4 * i = 4 by omega]
      rfl
    have hu : IntKind.u64.wrap l[i] = l[i] := u64 hx.1 (by omega)
    apply ev_succ
    simp only [batonlaw01_WordBytes.l0, if_pos (show (i : Int) < (l.length : Int) by omega), if_pos (show (0 : Int) ≤ (i : Int) by omega), rd_lt hlt, if_true, w1, w2, w3, if_pos (show (0 : Int) ≤ ((4 * i : Nat) : Int) by omega), if_pos (show ((4 * i : Nat) : Int) ≤ ((4 * i + 4 : Nat) : Int) by omega), if_pos (show ((4 * i + 4 : Nat) : Int) ≤ ((bytesL l).length : Int) by omega), Int.toNat_natCast, hcut, hu]
    refine ev_bind (refGet_ev _ (four_bytes _) (by rw [four_len]; omega)) ?_
    simp only [num_four hx.1 hx.2, if_true]
    exact ih (i + 1) (by omega) (by omega)
theorem WordBytes : batonlaw01_WordBytes.Pure := by
  intro l b _ hla hw _ hlb hb
  have hw' : ∀ x ∈ l, 0 ≤ x ∧ x ≤ 4294967295 := fun x hx => bounds_u32 (hw x hx)
  refine Ev.rounds ?_
  unfold batonlaw01_WordBytes.f
  refine ev_bind awake01 ?_
  simp only [if_true]
  by_cases c1 : (l.length : Int) > 100
  · simp only [if_pos c1]
    apply ev_succ
    simp only [batonlaw01_WordBytes.j0, if_true]
    exact ev_some _
  · simp only [if_neg c1]
    apply ev_succ
    by_cases c2 : (b.length : Int) > 400
    · simp only [batonlaw01_WordBytes.j0, decide_eq_true c2, if_true]
      exact ev_some _
    · simp only [batonlaw01_WordBytes.j0, decide_eq_false c2, if_false, Bool.false_eq_true]
      have hlen := bytesL_len l
      refine ev_bind (Bytes_ev l (by omega)) ?_
      refine ev_bind (Words_ev (bytesL l) (bytesL_bytes l) (by omega)) ?_
      have e : wordsSpec (bytesL l) = (l, 0) := by unfold wordsSpec; rw [if_pos (by omega), words_bytes hw']
      have w2 : wrap64 (4 * (l.length : Int)) = ((4 * l.length : Nat) : Int) := by rw [w64 (by omega) (by omega)]; omega
      simp only [e, w2, if_pos (show ((bytesL l).length : Int) = ((4 * l.length : Nat) : Int) by omega), if_true, bne_self_eq_false]
      apply ev_succ
      simp only [batonlaw01_WordBytes.j1, if_false, Bool.false_eq_true]
      exact WordBytes_l0 l b hw' (by omega) (bytes_of hb) (by omega) l.length 0 (by omega) (by omega)

end Go.Proofs.Ytaiiegbhbadciaa.Pure
