/- The law CrcJoins, of plain lists: the sum of one text behind another is that of both sums; so is that of noughts behind any sum. No condition beside the sizes that the row itself gives. -/
import Derived.Test.YtaiiegbhbadciaaLF07J
namespace Go.Proofs.Ytaiiegbhbadciaa.Pure
open Go.RowKit Go.Proofs.Ytaiiegbhbadciaa.Base Go.Proofs.YtaiiegbhbadciaaW.PrintWords Go.Proofs.YtaiiegbhbadciaaW.PrintMore Go.Proofs.Ytaiiegbhbadciaa.PF07J
set_option linter.unusedVariables false
set_option linter.unusedSimpArgs false
open Go.Proofs.Ytaiiegbhbadciaa.LF07J

theorem tStps_stps : ∀ n c, tStps n c = stps n c := by
  intro n
  induction n with
  | zero => intro c; rfl
  | succ n ih => intro c; exact ih (tStp c)
theorem through_eq {x : Int} (h0 : 0 ≤ x) (h1 : x ≤ 4294967295) {n : Int} (hn0 : -9223372036854775808 ≤ n) (hn1 : n ≤ 9223372036854775807) : crc_through.f x n = some ((stps (8 * n.toNat) x.toNat : Nat) : Int) := by
  unfold crc_through.f
  rw [if_pos ⟨h0, h1, hn0, hn1⟩, tStps_stps]
theorem Join_val (a b : List Int) (ha : Bytes a) (hb : Bytes b) (hl : b.length ≤ 1000000) : crc_Join.f (sumS 0 a) (sumS 0 b) (b.length : Int) = some (sumS 0 (a ++ b)) := by
  have ra := sumS_range 0 a (by omega) (by omega) ha
  have rb := sumS_range 0 b (by omega) (by omega) hb
  unfold crc_Join.f
  rw [through_eq ra.1 ra.2 (by omega) (by omega)]
  show some _ = _
  congr 1
  rw [← sum_join a b ha hb, Int.toNat_natCast]
  have h1 := stps_lt (8 * b.length) (c := (sumS 0 a).toNat) (by omega)
  have := u32_xor_nat (stps (8 * b.length) (sumS 0 a).toNat) (sumS 0 b).toNat h1 (by omega)
  rw [show (((sumS 0 b).toNat : Nat) : Int) = sumS 0 b by omega] at this
  exact this
theorem Zeros_val (s n : Int) (h0 : 0 ≤ s) (h1 : s ≤ 4294967295) (hn0 : -9223372036854775808 ≤ n) (hn1 : n ≤ 9223372036854775807) : crc_Zeros.f s n = some (sumS s (List.replicate n.toNat 0)) := by
  obtain ⟨c, rfl⟩ := Int.eq_ofNat_of_zero_le h0
  have e : Go.bits .xor .u32 4294967295 (c : Int) = (((4294967295 - (c : Int)).toNat : Nat) : Int) := by
    rw [show (4294967295 : Int) = ((4294967295 : Nat) : Int) from rfl, u32_xor_nat _ _ (by decide) (by omega), not32 (by omega)]
    omega
  unfold crc_Zeros.f
  rw [e, through_eq (by omega) (by omega) hn0 hn1]
  show some _ = _
  congr 1
  rw [← sum_zeros (c : Int) h0 h1 n.toNat, Int.toNat_natCast]
  have hl := stps_lt (8 * n.toNat) (c := (4294967295 - (c : Int)).toNat) (by omega)
  have := u32_xor_nat 4294967295 (stps (8 * n.toNat) (4294967295 - (c : Int)).toNat) (by decide) hl
  rw [not32 hl] at this
  refine Eq.trans this ?_
  omega
theorem CrcJoins : batonlaw07_CrcJoins.Pure := by
  intro a b n ham _ ha hbm _ hb hn
  have ba := bytes_of ha
  have bb := bytes_of hb
  have bn := bounds_i64 hn
  unfold maxLen at ham hbm
  refine Ev.rounds ?_
  unfold batonlaw07_CrcJoins.f
  refine ev_bind1 awake07 ?_
  simp only [if_true]
  by_cases ca : (a.length : Int) > 200
  · simp only [if_pos ca]
    apply ev_succ
    simp only [batonlaw07_CrcJoins.j0, if_true]
    exact ev_some _
  simp only [if_neg ca]
  by_cases cb : (b.length : Int) > 200
  · rw [decide_eq_true cb]
    apply ev_succ
    simp only [batonlaw07_CrcJoins.j0, if_true]
    exact ev_some _
  rw [decide_eq_false cb]
  have hab : Bytes (a ++ b) := fun x hx => (List.mem_append.1 hx).elim (ba x) (bb x)
  have ra := sumS_range 0 a (by omega) (by omega) ba
  apply ev_succ
  simp only [batonlaw07_CrcJoins.j0, Bool.false_eq_true, if_false]
  refine ev_bind (Sum_ev a ba (by omega)) ?_
  refine ev_bind (Sum_ev b bb (by omega)) ?_
  refine ev_bind1 (Join_val a b ba bb (by omega)) ?_
  refine ev_bind1 rfl ?_
  simp only [List.length_nil, Nat.zero_add, if_pos (show a.length < 140737488355328 by omega), List.nil_append]
  refine ev_bind1 rfl ?_
  simp only [if_pos (show a.length + b.length < 140737488355328 by omega)]
  refine ev_bind (Sum_ev (a ++ b) hab (by rw [List.length_append]; omega)) ?_
  simp only [if_true]
  by_cases cn : n > 300
  · simp only [if_pos cn]
    exact ev_some _
  simp only [if_neg cn]
  refine ev_bind (Sum_ev a ba (by omega)) ?_
  refine ev_bind1 (Zeros_val _ n ra.1 ra.2 bn.1 bn.2) ?_
  refine ev_bind (Sum_ev a ba (by omega)) ?_
  have hm : 0 ≤ mx n 0 ∧ (mx n 0).toNat = n.toNat ∧ (mx n 0).toNat ≤ 300 := by
    unfold mx
    split <;> omega
  rw [hm.2.1]
  simp only [if_pos hm.1, if_pos (show n.toNat ≤ 281474976710656 by omega)]
  refine ev_bind (refMore_ev _ _ ra.1 ra.2 (fun x hx => by rw [List.mem_replicate] at hx; omega) (by rw [List.length_replicate]; omega)) ?_
  exact ev_eq (ev_some _) (by simp)

end Go.Proofs.Ytaiiegbhbadciaa.Pure
