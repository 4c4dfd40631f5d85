/- The law WordNumbers, of plain numbers and lists: Put and Get agree with the reference. No condition beside the sizes that the row itself gives. -/
import Derived.Test.YtaiiegbhbadciaaLF01
namespace Go.Proofs.Ytaiiegbhbadciaa.Pure
open Go.RowKit Go.Proofs.Ytaiiegbhbadciaa.Base Go.Proofs.YtaiiegbhbadciaaW.PrintWords Go.Proofs.YtaiiegbhbadciaaW.PrintMore Go.Proofs.Ytaiiegbhbadciaa.PF01
set_option linter.unusedVariables false
set_option linter.unusedSimpArgs false
open Go.Proofs.Ytaiiegbhbadciaa.LF01

theorem WordNumbers_l0 (n : Int) (size : Nat) (hs0 : 1 ≤ size) (hs : size ≤ 8) (h0 : 0 ≤ n) (h1 : n ≤ 18446744073709551615) : ∀ (d i : Nat), size - i = d → i ≤ size →
    Ev (fun k => batonlaw01_WordNumbers.l0 k n (size : Int) (putSpec n size).1 (putSpec n size).2 (n / 2 ^ (8 * i)) (i : Int)) true := by
  intro d
  obtain ⟨m, rfl⟩ := Int.eq_ofNat_of_zero_le h0
  have cast : ∀ i : Nat, (m : Int) / 2 ^ (8 * i) = ((m / 256 ^ i : Nat) : Int) := fun i => by rw [show (2 : Int) ^ (8 * i) = ((256 ^ i : Nat) : Int) by rw [← pow8]; simp]; rw [← Int.natCast_ediv]
  induction d with
  | zero =>
    intro i hd hi
    obtain rfl : i = size := by omega
    apply ev_succ
    simp only [batonlaw01_WordNumbers.l0, if_neg (show ¬ ((i : Int) < (i : Int)) by omega)]
    by_cases c : (m : Int) / 2 ^ (8 * i) = 0
    · have e : putSpec (m : Int) (i : Int) = (be i (m : Int), 0) := by
        unfold putSpec
        rw [if_neg (by omega), show (8 * (i : Int)).toNat = 8 * i by omega, if_neg (fun h => h.2 c), Int.toNat_natCast]
      simp only [if_pos c, e, if_true, be_length]
      refine ev_bind (refGet_ev _ (be_bytes _ _) (by rw [be_length]; omega)) (ev_eq (ev_some _) ?_)
      rw [num_be hs (by omega) ?_]
      · simp
      · have := Int.lt_ediv_add_one_mul_self (m : Int) (pow2_pos (8 * i))
        rw [c] at this
        omega
    · have hi8 : i < 8 := by
        rcases Nat.lt_or_ge i 8 with h | h
        · exact h
        · obtain rfl : i = 8 := by omega
          exact absurd (by omega : (m : Int) / 2 ^ (8 * 8) = 0) c
      have e : putSpec (m : Int) (i : Int) = ([], 22) := by
        unfold putSpec
        rw [if_neg (by omega), show (8 * (i : Int)).toNat = 8 * i by omega, if_pos ⟨by omega, c⟩]
      simp only [if_neg c, e, List.length_nil]
      exact ev_eq (ev_some _) (by decide)
  | succ d ih =>
    intro i hd hi
    have hw : wrap64 ((i : Int) + 1) = ((i + 1 : Nat) : Int) := by rw [w64 (by omega) (by omega)]; omega
    have hv : IntKind.u64.wrap (Int.tdiv ((m : Int) / 2 ^ (8 * i)) 256) = (m : Int) / 2 ^ (8 * (i + 1)) := by
      rw [cast, cast, Nat.pow_succ, ← Nat.div_div_eq_div_mul, u64m, Int.tdiv_eq_ediv_of_nonneg (Int.natCast_nonneg _)]
      have : m / 256 ^ i ≤ m := Nat.div_le_self _ _
      generalize m / 256 ^ i = q at this ⊢
      omega
    apply ev_succ
    simp only [batonlaw01_WordNumbers.l0, if_pos (show (i : Int) < (size : Int) by omega), hw, hv]
    exact ih (i + 1) (by omega) (by omega)
theorem WordNumbers : batonlaw01_WordNumbers.Pure := by
  intro n size b hn hsz hlb _ hb
  have bn := bounds_u64 hn
  have bs := bounds_i64 hsz
  have bb := bytes_of hb
  unfold maxLen at hlb
  refine Ev.rounds ?_
  have last : Ev (fun k => batonlaw01_WordNumbers.j1 k n size (putSpec n size).1 (putSpec n size).2) true := by
    apply ev_succ
    simp only [batonlaw01_WordNumbers.j1]
    by_cases c1 : size < 1
    · simp only [if_pos c1]
      apply ev_succ
      have e : putSpec n size = ([], 1) := by unfold putSpec; rw [if_pos (.inl c1)]
      simp only [batonlaw01_WordNumbers.j2, if_true, e, List.length_nil]
      exact ev_eq (ev_some _) (by decide)
    · simp only [if_neg c1]
      apply ev_succ
      by_cases c2 : size > 8
      · have e : putSpec n size = ([], 1) := by unfold putSpec; rw [if_pos (.inr c2)]
        simp only [batonlaw01_WordNumbers.j2, decide_eq_true c2, if_true, e, List.length_nil]
        exact ev_eq (ev_some _) (by decide)
      · obtain ⟨s, rfl⟩ := Int.eq_ofNat_of_zero_le (show 0 ≤ size by omega)
        simp only [batonlaw01_WordNumbers.j2, decide_eq_false c2, Bool.false_eq_true, if_false]
        have := WordNumbers_l0 n s (by omega) (by omega) bn.1 bn.2 s 0 (by omega) (by omega)
        simpa using this
  unfold batonlaw01_WordNumbers.f
  refine ev_bind awake01 ?_
  simp only [if_true]
  refine ev_bind (Put_ev n size bn.1 bn.2) ?_
  refine ev_bind (Get_ev b bb (by omega)) ?_
  by_cases c1 : (b.length : Int) < 1
  · have e : getSpec b = (0, 1) := by unfold getSpec; rw [if_pos (by omega)]
    simp only [if_pos c1, e]
    apply ev_succ
    simp only [batonlaw01_WordNumbers.j0, if_true]
    exact last
  · simp only [if_neg c1]
    apply ev_succ
    by_cases c2 : (b.length : Int) > 8
    · have e : getSpec b = (0, 1) := by unfold getSpec; rw [if_pos (by omega)]
      simp only [batonlaw01_WordNumbers.j0, decide_eq_true c2, if_true, e]
      exact last
    · have e : getSpec b = (num b, 0) := by unfold getSpec; rw [if_neg (by omega)]
      simp only [batonlaw01_WordNumbers.j0, decide_eq_false c2, Bool.false_eq_true, if_false, e, if_true]
      refine ev_bind (refGet_ev b bb (by omega)) ?_
      simp only [if_true]
      exact last

end Go.Proofs.Ytaiiegbhbadciaa.Pure
