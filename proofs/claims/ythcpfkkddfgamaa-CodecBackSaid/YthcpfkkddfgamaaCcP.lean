/- Plain lemmas: what a Reader and the reference read. No condition. -/
import Derived.Test.YthcpfkkddfgamaaCcA
namespace Go.Proofs.Ythcpfkkddfgamaa.Cod
open Go.RowKit Go.Proofs.YthcpfkkddfgamaaW.Hand Go.Proofs.YthcpfkkddfgamaaW.PrintWords Go.Proofs.YthcpfkkddfgamaaW.PrintLast Go.Proofs.YthcpfkkddfgamaaW.PrintMore Go.Proofs.Ythcpfkkddfgamaa.PF06C Go.Proofs.Ythcpfkkddfgamaa.Base Go.Proofs.Ythcpfkkddfgamaa.LF06C
attribute [local go_sem] max2_int min2_int max_two min_two max_three min_three max_four min_four
set_option linter.unusedVariables false
set_option linter.unusedSimpArgs false

theorem ev_of {α : Type} {o : Option α} {r : α} (h : o = some r) : Ev (fun _ => o) r := by
  rw [h]
  exact ev_some _

def takeR (rest : List Int) (e n : Int) : List Int × Bool × List Int × Int := if e = 0 then (if n ≤ (rest.length : Int) then (rest.take n.toNat, true, rest.drop n.toNat, 0) else ([], false, rest, 4)) else ([], false, rest, e)
theorem fail_f (l : List Int) (e a : Int) : codec_Reader_Fail.f l e a = some (l, if e = 0 then a else e) := by
  unfold codec_Reader_Fail.f
  split <;> rfl
theorem take_f (rest : List Int) (e n : Int) (hn : 0 ≤ n) : codec_Reader_take.f rest e n = some (takeR rest e n) := by
  unfold codec_Reader_take.f takeR
  simp only [fail_f, Option.bind_some]
  by_cases he : e = 0
  · simp only [if_pos he]
    by_cases hl : n ≤ (rest.length : Int)
    · rw [if_neg (by omega), if_pos hn, if_pos hl, if_pos hl, he]
    · rw [if_pos (by omega), if_neg hl]
  · simp only [if_neg he]
def byteR (rest : List Int) (e : Int) : Int × List Int × Int := if e = 0 then (match rest with | [] => (0, [], 4) | x :: t => (x, t, 0)) else (0, rest, e)
theorem byte_f (rest : List Int) (e : Int) : codec_Reader_Byte.f rest e = some (byteR rest e) := by
  unfold codec_Reader_Byte.f byteR
  rw [take_f rest e 1 (by decide), Option.bind_some]
  unfold takeR
  by_cases he : e = 0
  · simp only [if_pos he]
    cases rest with
    | nil => rfl
    | cons x t =>
      rw [if_pos (show (1 : Int) ≤ ((x :: t).length : Int) by rw [List.length_cons]; omega)]
      rfl
  · simp only [if_neg he]
    rfl
def boolR (rest : List Int) (e : Int) : Bool × List Int × Int := (byteR rest e).1 == 1 |> fun b => (b, (byteR rest e).2.1, if (byteR rest e).1 > 1 then (if (byteR rest e).2.2 = 0 then 6 else (byteR rest e).2.2) else (byteR rest e).2.2)
theorem bool_f (rest : List Int) (e : Int) : codec_Reader_Bool.f rest e = some (boolR rest e) := by
  unfold codec_Reader_Bool.f boolR
  simp only [byte_f, Option.bind_some, fail_f]
  split <;> rfl
def numR (rest : List Int) (e : Int) : Int × List Int × Int := if e = 0 then rn rest 0 0 else (0, rest, e)
theorem num_ev (rest : List Int) (hb : Bytes rest) (e : Int) : Ev (fun k => codec_Reader_Number.f k rest e) (numR rest e) := by
  unfold numR
  by_cases he : e = 0
  · subst he
    rw [if_pos rfl]
    exact RNum_ok rest hb
  · rw [if_neg he]
    unfold codec_Reader_Number.f
    apply ev_succ
    have ht : codec_Reader_take.f rest e 1 = some ([], false, rest, e) := by
      rw [take_f rest e 1 (by decide)]
      unfold takeR
      rw [if_neg he]
    simp only [codec_Reader_Number.l0, if_pos (show (0 : Int) < 8 by decide), ht, Option.bind_some, Bool.false_eq_true, if_false]
    exact ev_some _
theorem rn_range : ∀ (l : List Int) (i : Nat) (acc : Int), Bytes l → i ≤ 8 → 0 ≤ acc → acc < 2 ^ (7 * i) → 0 ≤ (rn l i acc).1 ∧ (rn l i acc).1 < 2 ^ 56 ∧ ((rn l i acc).2.2 ≠ 0 → (rn l i acc).1 = 0) ∧ 0 ≤ (rn l i acc).2.2 ∧ (rn l i acc).2.2 ≤ 6 ∧ ∃ j, j ≤ l.length ∧ (rn l i acc).2.1 = l.drop j := by
  intro l
  induction l with
  | nil =>
    intro i acc _ _ _ _
    unfold rn
    refine ⟨Int.le_refl _, by show (0 : Int) < 2 ^ 56; decide, fun _ => rfl, ?_, ?_, 0, Nat.le_refl _, rfl⟩
    · show 0 ≤ (if 8 ≤ i then (5 : Int) else 4)
      split <;> decide
    · show (if 8 ≤ i then (5 : Int) else 4) ≤ 6
      split <;> decide
  | cons x t ih =>
    intro i acc hb hi h0 h1
    have hx := hb x (by simp)
    have ht : Bytes t := fun y hy => hb y (by simp [hy])
    unfold rn
    by_cases h8 : 8 ≤ i
    · rw [if_pos h8]
      exact ⟨Int.le_refl _, by show (0 : Int) < 2 ^ 56; decide, fun _ => rfl, by show (0 : Int) ≤ 5; decide, by show (5 : Int) ≤ 6; decide, 0, Nat.zero_le _, rfl⟩
    · rw [if_neg h8]
      have hp : (2 : Int) ^ (7 * (i + 1)) = 2 ^ (7 * i) * 128 := by rw [show 7 * (i + 1) = 7 * i + 7 by omega, Int.pow_add]; rfl
      have hpp : (2 : Int) ^ (7 * (i + 1)) ≤ 2 ^ 56 := pow2_le (by omega)
      have hpos : 0 < (2 : Int) ^ (7 * i) := Int.pow_pos (by decide)
      by_cases c0 : x = 0 ∧ 0 < i
      · rw [if_pos c0]
        exact ⟨Int.le_refl _, by show (0 : Int) < 2 ^ 56; decide, fun _ => rfl, by show (0 : Int) ≤ 6; decide, by show (6 : Int) ≤ 6; decide, 1, by simp, rfl⟩
      · rw [if_neg c0]
        by_cases c1 : x < 128
        · rw [if_pos c1]
          have hm : x * 2 ^ (7 * i) ≤ 127 * 2 ^ (7 * i) := Int.mul_le_mul_of_nonneg_right (by omega) (by omega)
          have hm0 : 0 ≤ x * 2 ^ (7 * i) := Int.mul_nonneg hx.1 (by omega)
          exact ⟨by show 0 ≤ acc + x * 2 ^ (7 * i); omega, by show acc + x * 2 ^ (7 * i) < 2 ^ 56; omega, fun h => absurd rfl h, by show (0 : Int) ≤ 0; decide, by show (0 : Int) ≤ 6; decide, 1, by simp, rfl⟩
        · rw [if_neg c1]
          have hm : (x - 128) * 2 ^ (7 * i) ≤ 127 * 2 ^ (7 * i) := Int.mul_le_mul_of_nonneg_right (by omega) (by omega)
          have hm0 : 0 ≤ (x - 128) * 2 ^ (7 * i) := Int.mul_nonneg (by omega) (by omega)
          obtain ⟨a1, a2, a3, a4, a5, j, a6, a7⟩ := ih (i + 1) (acc + (x - 128) * 2 ^ (7 * i)) ht (by omega) (by omega) (by omega)
          exact ⟨a1, a2, a3, a4, a5, j + 1, by simp; omega, by rw [a7]; rfl⟩
theorem ref_l0 (b : List Int) (hb : Bytes b) (hl : b.length ≤ 1000000) : ∀ (d i q : Nat) (acc : Int), 8 - i = d → i ≤ 8 → q ≤ b.length → 0 ≤ acc → acc < 2 ^ (7 * i) → ∃ zt : Int, Ev (fun k => batonref06_ReadNumber.l0 k b (q : Int) acc (2 ^ (7 * i)) (i : Int)) ((rn (b.drop q) i acc).1, zt, (rn (b.drop q) i acc).2.2) ∧ ((rn (b.drop q) i acc).2.2 = 0 → ∃ t : Nat, zt = (t : Int) ∧ t ≤ b.length ∧ (rn (b.drop q) i acc).2.1 = b.drop t) := by
  intro d
  induction d with
  | zero =>
    intro i q acc hd hi hq h0 h1
    obtain rfl : i = 8 := by omega
    have e1 : (rn (b.drop q) 8 acc).1 = 0 ∧ (rn (b.drop q) 8 acc).2.2 = 5 := by
      cases b.drop q with
      | nil => unfold rn; exact ⟨rfl, rfl⟩
      | cons x t => unfold rn; exact ⟨rfl, rfl⟩
    refine ⟨q, ?_, fun h => by rw [e1.2] at h; exact absurd h (by decide)⟩
    rw [e1.1, e1.2]
    apply ev_succ
    simp only [batonref06_ReadNumber.l0, if_neg (show ¬ ((8 : Nat) : Int) < 8 by decide)]
    exact ev_some _
  | succ d ih =>
    intro i q acc hd hi hq h0 h1
    have hp : (2 : Int) ^ (7 * (i + 1)) = 2 ^ (7 * i) * 128 := by rw [show 7 * (i + 1) = 7 * i + 7 by omega, Int.pow_add]; rfl
    have hpp : (2 : Int) ^ (7 * (i + 1)) ≤ 2 ^ 56 := pow2_le (by omega)
    have hpos : 0 < (2 : Int) ^ (7 * i) := Int.pow_pos (by decide)
    by_cases hend : q = b.length
    · have e0 : b.drop q = [] := List.drop_of_length_le (by omega)
      rw [e0]
      have e1 : rn [] i acc = (0, [], 4) := by unfold rn; rw [if_neg (by omega)]
      refine ⟨q, ?_, fun h => by rw [e1] at h; exact absurd h (by decide)⟩
      rw [e1]
      apply ev_succ
      simp only [batonref06_ReadNumber.l0, if_pos (show (i : Int) < 8 by omega), if_pos (show (q : Int) ≥ (b.length : Int) by omega)]
      exact ev_some _
    · have hlt : q < b.length := by omega
      have hx := hb b[q] (List.getElem_mem hlt)
      rw [List.drop_eq_getElem_cons hlt]
      have hrd : rd b (q : Int) = b[q] := rd_lt hlt
      have hw : wrap64 b[q] = b[q] := w64 (by omega) (by omega)
      have hwi : wrap64 ((i : Int) + 1) = ((i + 1 : Nat) : Int) := by rw [w64 (by omega) (by omega)]; omega
      have hwq : wrap64 ((q : Int) + 1) = ((q + 1 : Nat) : Int) := by rw [w64 (by omega) (by omega)]; omega
      have hwu : wrap64 ((2 : Int) ^ (7 * i) * 128) = 2 ^ (7 * (i + 1)) := by rw [← hp, w64 (by omega) (by omega)]
      generalize hxx : b[q] = x at hx hrd hw
      by_cases c0 : x = 0 ∧ 0 < i
      · have e1 : rn (x :: b.drop (q + 1)) i acc = (0, b.drop (q + 1), 6) := by unfold rn; rw [if_neg (by omega), if_pos c0]
        refine ⟨q, ?_, fun h => by rw [e1] at h; exact absurd (show (6 : Int) = 0 from h) (by decide)⟩
        rw [e1]
        apply ev_succ
        simp only [batonref06_ReadNumber.l0, if_pos (show (i : Int) < 8 by omega), if_neg (show ¬ (q : Int) ≥ (b.length : Int) by omega), if_pos (show (0 : Int) ≤ (q : Int) by omega), if_pos (show (q : Int) < (b.length : Int) by omega), hrd, hw, if_pos c0.1, decide_eq_true (show (i : Int) > 0 by omega)]
        apply ev_succ
        simp only [batonref06_ReadNumber.j1, if_true]
        exact ev_some _
      · have hj : ∀ (g : Nat → Option (Int × Int × Int)) (r : Int × Int × Int), Ev (fun k => batonref06_ReadNumber.j1 k b (q : Int) acc (2 ^ (7 * i)) (i : Int) x false) r → Ev (fun k => batonref06_ReadNumber.l0 k b (q : Int) acc (2 ^ (7 * i)) (i : Int)) r := by
          intro _ r h
          apply ev_succ
          by_cases cz : x = 0
          · have : decide ((i : Int) > 0) = false := decide_eq_false (fun h => c0 ⟨cz, by omega⟩)
            simp only [batonref06_ReadNumber.l0, if_pos (show (i : Int) < 8 by omega), if_neg (show ¬ (q : Int) ≥ (b.length : Int) by omega), if_pos (show (0 : Int) ≤ (q : Int) by omega), if_pos (show (q : Int) < (b.length : Int) by omega), hrd, hw, if_pos cz, this]
            exact h
          · simp only [batonref06_ReadNumber.l0, if_pos (show (i : Int) < 8 by omega), if_neg (show ¬ (q : Int) ≥ (b.length : Int) by omega), if_pos (show (0 : Int) ≤ (q : Int) by omega), if_pos (show (q : Int) < (b.length : Int) by omega), hrd, hw, if_neg cz]
            exact h
        by_cases c1 : x < 128
        · have e1 : rn (x :: b.drop (q + 1)) i acc = (acc + x * 2 ^ (7 * i), b.drop (q + 1), 0) := by unfold rn; rw [if_neg (by omega), if_neg c0, if_pos c1]
          have hm : x * 2 ^ (7 * i) ≤ 127 * 2 ^ (7 * i) := Int.mul_le_mul_of_nonneg_right (by omega) (by omega)
          have hm0 : 0 ≤ x * 2 ^ (7 * i) := Int.mul_nonneg hx.1 (by omega)
          refine ⟨((q + 1 : Nat) : Int), ?_, fun _ => ⟨q + 1, rfl, by omega, by rw [e1]⟩⟩
          rw [e1]
          refine hj (fun _ => none) _ ?_
          apply ev_succ
          simp only [batonref06_ReadNumber.j1, Bool.false_eq_true, if_false, if_pos c1, hwq]
          refine ev_eq (ev_some _) ?_
          rw [show Int.tmod x 128 = x from Int.tmod_eq_of_lt hx.1 c1, w64 (x := x * 2 ^ (7 * i)) (by omega) (by omega), w64 (by omega) (by omega)]
        · have e1 : rn (x :: b.drop (q + 1)) i acc = rn (b.drop (q + 1)) (i + 1) (acc + (x - 128) * 2 ^ (7 * i)) := by
            conv => lhs; unfold rn
            rw [if_neg (by omega), if_neg c0, if_neg c1]
          have hm : (x - 128) * 2 ^ (7 * i) ≤ 127 * 2 ^ (7 * i) := Int.mul_le_mul_of_nonneg_right (by omega) (by omega)
          have hm0 : 0 ≤ (x - 128) * 2 ^ (7 * i) := Int.mul_nonneg (by omega) (by omega)
          obtain ⟨zt, h2, h3⟩ := ih (i + 1) (q + 1) (acc + (x - 128) * 2 ^ (7 * i)) (by omega) (by omega) (by omega) (by omega) (by omega)
          rw [e1]
          refine ⟨zt, hj (fun _ => none) _ ?_, h3⟩
          apply ev_succ
          have ht : Int.tmod x 128 = x - 128 := by rw [Int.tmod_eq_emod_of_nonneg hx.1]; omega
          simp only [batonref06_ReadNumber.j1, Bool.false_eq_true, if_false, if_neg c1, hwq, hwi, hwu, ht, w64 (x := (x - 128) * 2 ^ (7 * i)) (by omega) (by omega), w64 (x := acc + (x - 128) * 2 ^ (7 * i)) (by omega) (by omega)]
          exact h2
theorem ref_ev (b : List Int) (hb : Bytes b) (hl : b.length ≤ 1000000) (q : Nat) (hq : q ≤ b.length) : ∃ zt : Int, Ev (fun k => batonref06_ReadNumber.f k b (q : Int)) ((numR (b.drop q) 0).1, zt, (numR (b.drop q) 0).2.2) ∧ ((numR (b.drop q) 0).2.2 = 0 → ∃ t : Nat, zt = (t : Int) ∧ t ≤ b.length ∧ (numR (b.drop q) 0).2.1 = b.drop t) :=
  ref_l0 b hb hl 8 0 q 0 rfl (by omega) hq (Int.le_refl _) (by decide)
theorem numR_facts (rest : List Int) (hb : Bytes rest) (e : Int) (he : 0 ≤ e ∧ e ≤ 1000) : 0 ≤ (numR rest e).1 ∧ (numR rest e).1 < 2 ^ 56 ∧ ((numR rest e).2.2 ≠ 0 → (numR rest e).1 = 0) ∧ 0 ≤ (numR rest e).2.2 ∧ (numR rest e).2.2 ≤ 1000 ∧ ∃ j, j ≤ rest.length ∧ (numR rest e).2.1 = rest.drop j := by
  unfold numR
  by_cases h : e = 0
  · rw [if_pos h]
    obtain ⟨a1, a2, a3, a4, a5, a6⟩ := rn_range rest 0 0 hb (by omega) (Int.le_refl _) (by decide)
    exact ⟨a1, a2, a3, a4, by omega, a6⟩
  · rw [if_neg h]
    exact ⟨Int.le_refl _, by show (0 : Int) < 2 ^ 56; decide, fun _ => rfl, he.1, he.2, 0, Nat.zero_le _, rfl⟩
def decS (n : Int) : Int := if n % 2 = 1 then -(n / 2) - 1 else n / 2
def sgnR (rest : List Int) (e : Int) : Int × List Int × Int := (decS (numR rest e).1, (numR rest e).2.1, (numR rest e).2.2)
theorem sgn_ev (rest : List Int) (hb : Bytes rest) (e : Int) (he : 0 ≤ e ∧ e ≤ 1000) : Ev (fun k => codec_Reader_Signed.f k rest e) (sgnR rest e) := by
  obtain ⟨h0, h1, _⟩ := numR_facts rest hb e he
  unfold codec_Reader_Signed.f
  refine ev_bind (num_ev rest hb e) ?_
  have e1 : Int.tmod (numR rest e).1 2 = (numR rest e).1 % 2 := Int.tmod_eq_emod_of_nonneg h0
  have e2 : Int.tdiv (numR rest e).1 2 = (numR rest e).1 / 2 := Int.tdiv_eq_ediv_of_nonneg h0
  unfold sgnR decS
  rw [e1, e2]
  by_cases h : (numR rest e).1 % 2 = 1
  · simp only [if_pos h]
    refine ev_eq (ev_some _) ?_
    rw [w64 (x := (numR rest e).1 / 2) (by omega) (by omega), w64 (x := -((numR rest e).1 / 2)) (by omega) (by omega), w64 (by omega) (by omega)]
  · simp only [if_neg h]
    refine ev_eq (ev_some _) ?_
    rw [w64 (by omega) (by omega)]
theorem refS (n : Int) (h0 : 0 ≤ n) (h1 : n < 2 ^ 56) : batonref06_Signed.f (decS n) = some n := by
  unfold batonref06_Signed.f decS
  by_cases h : n % 2 = 1
  · rw [if_pos h, if_pos (by omega), w64 (x := -(-(n / 2) - 1)) (by omega) (by omega), w64 (x := 2 * -(-(n / 2) - 1)) (by omega) (by omega), w64 (by omega) (by omega)]
    congr 1
    omega
  · rw [if_neg h, if_neg (by omega), w64 (by omega) (by omega)]
    congr 1
    omega
def textR (rest : List Int) (e most : Int) : List Int × List Int × Int :=
  let r := numR rest e
  let e2 := if r.2.2 = 0 ∧ r.1 > most then 22 else r.2.2
  let t := takeR r.2.1 e2 r.1
  (t.1, t.2.2.1, t.2.2.2)
theorem text_ev (rest : List Int) (hb : Bytes rest) (hl : rest.length ≤ 1000000) (e most : Int) (he : 0 ≤ e ∧ e ≤ 1000) : Ev (fun k => codec_Reader_Text.f k rest e most) (textR rest e most) := by
  obtain ⟨h0, h1, _, _, _, j, hj, hd⟩ := numR_facts rest hb e he
  unfold codec_Reader_Text.f
  refine ev_bind (num_ev rest hb e) ?_
  have hlen : (numR rest e).2.1.length ≤ 1000000 := by rw [hd, List.length_drop]; omega
  have key : ∀ (b : Bool) (e2 : Int), e2 = (if b = true then (if (numR rest e).2.2 = 0 then 22 else (numR rest e).2.2) else (numR rest e).2.2) → Ev (fun k => codec_Reader_Text.j0 k (numR rest e).1 b (numR rest e).2.1 (numR rest e).2.2) ((takeR (numR rest e).2.1 e2 (numR rest e).1).1, (takeR (numR rest e).2.1 e2 (numR rest e).1).2.2.1, (takeR (numR rest e).2.1 e2 (numR rest e).1).2.2.2) := by
    intro b e2 he2
    have hfin : ∀ t : List Int × Bool × List Int × Int, (t.2.1 = false → t.1 = []) → t.1.length ≤ 1000000 → (if t.2.1 = true then ((some (([] : List Int) : List Int)).bind fun y => (if y.length + t.1.length < 140737488355328 then (some ((y ++ t.1), t.2.2.1, t.2.2.2)) else (none))) else (some (([] : List Int), t.2.2.1, t.2.2.2))) = some (t.1, t.2.2.1, t.2.2.2) := by
      intro t h1 h2
      cases hb : t.2.1 with
      | true =>
        rw [if_pos rfl, Option.bind_some, if_pos (show ([] : List Int).length + t.1.length < 140737488355328 by simp; omega)]
        rfl
      | false => rw [if_neg (by decide), h1 hb]
    have htk : ∀ e3 : Int, ((takeR (numR rest e).2.1 e3 (numR rest e).1).2.1 = false → (takeR (numR rest e).2.1 e3 (numR rest e).1).1 = []) ∧ (takeR (numR rest e).2.1 e3 (numR rest e).1).1.length ≤ 1000000 := by
      intro e3
      unfold takeR
      split
      · split
        · exact ⟨fun h => (by cases h), by show (List.take _ _).length ≤ _; rw [List.length_take]; omega⟩
        · exact ⟨fun _ => rfl, by show ([] : List Int).length ≤ _; simp⟩
      · exact ⟨fun _ => rfl, by show ([] : List Int).length ≤ _; simp⟩
    apply ev_succ
    cases b with
    | true =>
      simp only [codec_Reader_Text.j0, if_true, fail_f, Option.bind_some, take_f _ _ _ h0]
      rw [if_pos rfl] at he2
      rw [← he2]
      exact ev_of (hfin _ (htk e2).1 (htk e2).2)
    | false =>
      simp only [codec_Reader_Text.j0, Bool.false_eq_true, if_false, take_f _ _ _ h0, Option.bind_some]
      rw [if_neg (by decide)] at he2
      rw [← he2]
      exact ev_of (hfin _ (htk e2).1 (htk e2).2)
  unfold textR
  by_cases c : (numR rest e).2.2 = 0
  · simp only [if_pos c]
    by_cases c2 : (numR rest e).1 > most
    · rw [decide_eq_true c2]
      refine ev_eq (key true 22 (by rw [if_pos rfl, if_pos c])) ?_
      simp only [if_pos (And.intro c c2)]
    · rw [decide_eq_false c2]
      refine ev_eq (key false 0 (by rw [if_neg (by decide), c])) ?_
      simp only [c, true_and, if_neg c2]
  · simp only [if_neg c]
    refine ev_eq (key false (numR rest e).2.2 (by rw [if_neg (by decide)])) ?_
    simp only [if_neg (fun h : (numR rest e).2.2 = 0 ∧ (numR rest e).1 > most => c h.1)]

end Go.Proofs.Ythcpfkkddfgamaa.Cod
