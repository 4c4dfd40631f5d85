/- The law CodecOne, of plain lists: bytes that are read as a number, with nothing left, are the number's bytes. No condition beside the sizes that the row itself gives. -/
import Derived.Test.YthcpfkkddfgamaaLF06
namespace Go.Proofs.Ythcpfkkddfgamaa.Pure
open Go.RowKit Go.Proofs.Ythcpfkkddfgamaa.Base Go.Proofs.YthcpfkkddfgamaaW.PrintWords Go.Proofs.YthcpfkkddfgamaaW.PrintMore Go.Proofs.Ythcpfkkddfgamaa.PF06
set_option linter.unusedVariables false
set_option linter.unusedSimpArgs false
open Go.Proofs.Ythcpfkkddfgamaa.LF06

/-- A number's bytes have one form. -/
theorem rn_err : ∀ (l : List Int) (i : Nat) (acc : Int), (rn l i acc).2.2 = 0 → (rn l i acc).2.1.length ≤ l.length := by
  intro l
  induction l with
  | nil => intro i acc h; unfold rn; simp
  | cons x t ih =>
    intro i acc h
    unfold rn at h ⊢
    split
    · simp
    · split
      · simp
      · split
        · simp
        · rename_i h1 h2 h3
          rw [if_neg h1, if_neg h2, if_neg h3] at h
          have := ih _ _ h
          simp
          omega
theorem CodecOne : batonlaw06_CodecOne.Pure := by
  intro l _ hlen hw
  have hb := bytes_of hw
  refine Ev.rounds ?_
  unfold batonlaw06_CodecOne.f
  refine ev_bind awake06 ?_
  simp only [if_true]
  by_cases c : (l.length : Int) > 20
  · simp only [if_pos c]
    exact ev_some _
  · simp only [if_neg c]
    rw [NewR_ok l (by omega)]
    simp only [Option.bind_some]
    refine ev_bind (RNum_ok l hb) ?_
    rcases he : rn l 0 0 with ⟨n, rest, e⟩
    simp only [codec_Reader_Done.f]
    by_cases c0 : e = 0
    · simp only [if_pos c0]
      by_cases c1 : (rest.length : Int) > 0
      · simp only [if_pos c1, Option.bind_some, show ¬ ((5 : Int) = 0) by decide, if_false]
        exact ev_some _
      · simp only [if_neg c1, Option.bind_some, if_pos c0]
        obtain rfl : rest = [] := by cases rest with | nil => rfl | cons a b => simp at c1
        subst c0
        obtain ⟨m, e, h0, h1, _, h3⟩ := rn_one l 0 0 n hb (by omega) he
        have en : n = m := by simpa using e
        subst en
        show Ev (fun k => (codec_Writer_Number.f k [] 0 n).bind _) true
        refine ev_bind (WNum_ok n [] h0 (by simpa using h1) (by simp)) ?_
        simp only [Nat.sub_zero] at h3
        rw [List.nil_append, h3, Bytes_ok l (by omega)]
        simp only [Option.bind_some, if_true]
        refine ev_bind (Same_ev l l (by omega)) ?_
        exact ev_eq (ev_some _) (by simp)
    · simp only [if_neg c0, Option.bind_some]
      exact ev_some _

end Go.Proofs.Ythcpfkkddfgamaa.Pure
