/- The law RecordBursts, of plain lists: a block that holds a record, with some of 32 bits in line changed, but not its mark, holds none. No condition beside the sizes that the row itself gives. -/
import Derived.Test.YtaiiegbhbadciaaLF22B
namespace Go.Proofs.Ytaiiegbhbadciaa.Pure
open Go.RowKit Go.Proofs.Ytaiiegbhbadciaa.Base Go.Proofs.YtaiiegbhbadciaaW.PrintWords Go.Proofs.YtaiiegbhbadciaaW.PrintMore Go.Proofs.Ytaiiegbhbadciaa.PF22B
set_option linter.unusedVariables false
set_option linter.unusedSimpArgs false
open Go.Proofs.Ytaiiegbhbadciaa.LF22B

theorem stps_add (m n : Nat) : ∀ c : Nat, stps (m + n) c = stps n (stps m c) := by
  induction m with
  | zero =>
    intro c
    rw [Nat.zero_add]
    rfl
  | succ m ih =>
    intro c
    rw [Nat.add_right_comm]
    exact ih (stp c)
theorem le4_feed (r s : Nat) (hs : s < 4294967296) : crcN r (le4 (s : Int)) = stps 32 (r ^^^ s) := by
  have one : ∀ (r s : Nat), stps 8 (r ^^^ s) = stps 8 (r ^^^ s % 256) ^^^ s / 256 := fun r s => by
    have h1 := join_xor 8 (s / 256) (s % 256) (by omega)
    have h2 : 2 ^ 8 * (s / 256) + s % 256 = s := by omega
    rw [h2] at h1
    have h3 : r ^^^ s = (r ^^^ s % 256) ^^^ 256 * (s / 256) := by
      rw [Nat.xor_assoc, Nat.xor_comm (s % 256)]
      exact congrArg (r ^^^ ·) h1
    rw [h3, stps_xor, stps8_high]
  have e0 : ((s : Int) % 256).toNat = s % 256 := by omega
  have e1 : ((s : Int) / 256 % 256).toNat = s / 256 % 256 := by omega
  have e2 : ((s : Int) / 65536 % 256).toNat = s / 256 / 256 % 256 := by omega
  have e3 : ((s : Int) / 16777216 % 256).toNat = s / 256 / 256 / 256 % 256 := by omega
  have hz : s / 256 / 256 / 256 / 256 = 0 := by omega
  show stps 8 (stps 8 (stps 8 (stps 8 (r ^^^ ((s : Int) % 256).toNat) ^^^ ((s : Int) / 256 % 256).toNat) ^^^ ((s : Int) / 65536 % 256).toNat) ^^^ ((s : Int) / 16777216 % 256).toNat) = _
  rw [e0, e1, e2, e3, show (32 : Nat) = 8 + (8 + (8 + 8)) from rfl, stps_add, stps_add, stps_add, one r s, one _ (s / 256), one _ (s / 256 / 256), one _ (s / 256 / 256 / 256), hz, Nat.xor_zero]
/-- A text with its own sum behind it has one sum, whatever the text. -/
theorem resid (X : List Int) (hX : Bytes X) : sumS 0 (X ++ le4 (sumS 0 X)) = 4294967295 - ((stps 32 4294967295 : Nat) : Int) := by
  have hr := crcN_lt X hX (c := 4294967295) (by decide)
  have hs : sumS 0 X = ((4294967295 - crcN 4294967295 X : Nat) : Int) := by
    unfold sumS
    rw [show ((4294967295 : Int) - 0).toNat = 4294967295 from rfl]
    omega
  have h1 : crcN 4294967295 (X ++ le4 (sumS 0 X)) = stps 32 4294967295 := by
    rw [hs]
    show (X ++ _).foldl _ _ = _
    rw [List.foldl_append]
    show crcN (crcN 4294967295 X) (le4 ((4294967295 - crcN 4294967295 X : Nat) : Int)) = _
    rw [le4_feed _ _ (by omega), ← not32 hr, Nat.xor_comm 4294967295, ← Nat.xor_assoc, Nat.xor_self, Nat.zero_xor]
  show (4294967295 : Int) - ((crcN ((4294967295 : Int) - 0).toNat (X ++ le4 (sumS 0 X)) : Nat) : Int) = _
  rw [show ((4294967295 : Int) - 0).toNat = 4294967295 from rfl, h1]
theorem tb_ext {x b : List Int} (hx : Bytes x) (hb : Bytes b) (hl : x.length = b.length) (h : ∀ j, j < 8 * b.length → tb x j = tb b j) : x = b := by
  apply List.ext_getElem hl
  intro q h1 h2
  have hxq := hx _ (List.getElem_mem h1)
  have hbq := hb _ (List.getElem_mem h2)
  have e : x[q].toNat = b[q].toNat := by
    apply Nat.eq_of_testBit_eq
    intro i
    by_cases hi : i < 8
    · have := h (8 * q + i) (by omega)
      unfold tb at this
      rw [show (8 * q + i) / 8 = q by omega, show (8 * q + i) % 8 = i by omega, List.getD_eq_getElem?_getD, List.getD_eq_getElem?_getD, List.getElem?_eq_getElem h1, List.getElem?_eq_getElem h2] at this
      exact this
    · have hp : (2 : Nat) ^ 8 ≤ 2 ^ i := Nat.pow_le_pow_right (by decide) (by omega)
      rw [Nat.testBit_lt_two_pow (by omega), Nat.testBit_lt_two_pow (by omega)]
  omega
theorem burst_same {b x : List Int} {p w : Nat} (hb : Bytes b) (hw : w < 4294967296) (h : Burst b x p w 32 false) : x = b := by
  refine tb_ext h.bytes hb h.len (fun j hj => ?_)
  rw [h.bit j hj]
  have : (decide (p ≤ j) && decide (j < p + 32) && w.testBit (j - p)) = false := by
    cases ht : (decide (p ≤ j) && decide (j < p + 32) && w.testBit (j - p)) with
    | false => rfl
    | true =>
      simp only [Bool.and_eq_true, decide_eq_true_eq] at ht
      have := h.some_.2 ⟨j - p, by omega, by omega, ht.2⟩
      cases this
  rw [this, Bool.xor_false]
theorem read_bad (X : List Int) (hl : X.length = 255) (h : ¬ le4 (sumS 0 (X.take 251)) = X.drop 251) : rdS (X ++ [1]) = (0, 0, [], 21) := by
  have h255 : rd (X ++ [1]) 255 = 1 := by
    have := rd_lt (xs := X ++ [1]) (i := 255) (by simp; omega)
    rw [show ((255 : Nat) : Int) = 255 from rfl] at this
    rw [this, List.getElem_append_right (by omega)]
    simp
  unfold rdS
  rw [h255, if_neg (by decide), if_neg (by decide), List.take_append_of_le_length (by omega), List.take_append_of_le_length (by omega), List.take_of_length_le (l := X) (i := 255) (by omega), if_neg h]
section
variable (P : List Int) (hP : Bytes P) (hPl : P.length = 255) (hok : le4 (sumS 0 (P.take 251)) = P.drop 251)
include hP hPl hok
theorem Bursts_l0 (a : Int) (p w : Nat) (ha : Int.tmod (wrap64 a) 2040 = (p : Int)) (hp : p < 2040) (hw : w < 4294967296) : ∀ (d i : Nat) (x : List Int) (c : Bool), 32 - i = d → i ≤ 32 → Burst P x p w i c →
    Ev (fun k => batonlaw22_RecordBursts.l0 k a ((w / 2 ^ i : Nat) : Int) (P ++ [0]) (x ++ [1]) (i : Int)) true := by
  intro d
  induction d with
  | zero =>
    intro i x c hd hi h
    obtain rfl : i = 32 := by omega
    have hl := h.len
    apply ev_succ
    simp only [batonlaw22_RecordBursts.l0, if_neg (show ¬ (((32 : Nat) : Int) < 32) by decide), Marked_f P 0 true (by omega), Option.bind_some, if_true]
    refine ev_bind (Same_ev (x ++ [1]) (P ++ [1]) (by simp; omega)) ?_
    by_cases hxp : x ++ [1] = P ++ [1]
    · simp only [decide_eq_true hxp, if_true]
      exact ev_some _
    · simp only [decide_eq_false hxp, Bool.false_eq_true, if_false]
      refine ev_bind (Read_ev (x ++ [1]) (h.bytes.append (bytes_one 1 (by omega))) (by simp; omega)) ?_
      cases c with
      | false => exact absurd (by rw [burst_same hP hw h]) hxp
      | true =>
        have hbad : ¬ le4 (sumS 0 (x.take 251)) = x.drop 251 := fun e => by
          have h1 := resid (x.take 251) (h.bytes.take 251)
          have h2 := resid (P.take 251) (hP.take 251)
          rw [e, List.take_append_drop] at h1
          rw [hok, List.take_append_drop] at h2
          have := (crc_differs hP hw h).1 (h1.trans h2.symm)
          cases this
        rw [read_bad x (by omega) hbad]
        exact ev_some _
  | succ d ih =>
    intro i x c hd hi h
    have hl := h.len
    have hw1 : wrap64 ((i : Int) + 1) = ((i + 1 : Nat) : Int) := by rw [w64 (by omega) (by omega)]; omega
    have e1 : wrap64 (Int.tmod (wrap64 a) 2040 + (i : Int)) = ((p + i : Nat) : Int) := by rw [ha, w64 (by omega) (by omega)]; omega
    have e2 : wrap64 (Int.tdiv ((p + i : Nat) : Int) 8) = (((p + i) / 8 : Nat) : Int) := by rw [Int.tdiv_eq_ediv_of_nonneg (Int.natCast_nonneg _), w64 (by omega) (by omega)]; omega
    have e3 : IntKind.u64.wrap (Int.tmod ((p + i : Nat) : Int) 8) = (((p + i) % 8 : Nat) : Int) := by rw [Int.tmod_eq_emod_of_nonneg (Int.natCast_nonneg _), u64 (by omega) (by omega)]; omega
    have hwi : w / 2 ^ i ≤ w := Nat.div_le_self _ _
    have e4 : Int.tdiv ((w / 2 ^ i : Nat) : Int) 2 % 4294967296 = ((w / 2 ^ (i + 1) : Nat) : Int) := by
      rw [Nat.pow_succ, ← Nat.div_div_eq_div_mul, Int.tdiv_eq_ediv_of_nonneg (Int.natCast_nonneg _)]
      generalize w / 2 ^ i = y at hwi ⊢
      omega
    have e5 : Int.tmod ((w / 2 ^ i : Nat) : Int) 2 = ((w / 2 ^ i % 2 : Nat) : Int) := by rw [Int.tmod_eq_emod_of_nonneg (Int.natCast_nonneg _)]; omega
    have e6 : shl .u8 1 (((p + i) % 8 : Nat) : Int) = ((2 ^ ((p + i) % 8) : Nat) : Int) := by
      unfold shl
      rw [Int.toNat_natCast, Nat.min_eq_left (by show (p + i) % 8 ≤ 8; omega), IntKind.wrap_u8, Int.one_mul]
      have h8 : (p + i) % 8 < 8 := by omega
      generalize (p + i) % 8 = r at h8 ⊢
      have : 2 ^ r < 2 ^ 8 := Nat.pow_lt_pow_right (by decide) h8
      have hc : (2 : Int) ^ r = ((2 ^ r : Nat) : Int) := by rw [Int.natCast_pow]; rfl
      rw [hc]
      generalize 2 ^ r = g at this ⊢
      omega
    have ht : w.testBit i = decide (w / 2 ^ i % 2 = 1) := Nat.testBit_eq_decide_div_mod_eq ..
    apply ev_succ
    simp only [batonlaw22_RecordBursts.l0, if_pos (show (i : Int) < 32 by omega), hw1, e1, e2, e3, e4, e5]
    by_cases h1 : w / 2 ^ i % 2 = 1
    · simp only [if_pos (show ((w / 2 ^ i % 2 : Nat) : Int) = 1 by omega)]
      by_cases h2 : p + i < 2040
      · have h3 : (p + i) / 8 < x.length := by omega
        have hrd : rd (x ++ [1]) (((p + i) / 8 : Nat) : Int) = x[(p + i) / 8] := by
          rw [rd_lt (by simp; omega), List.getElem_append_left h3]
        have hset : ∀ v : Int, (x ++ [1]).set ((p + i) / 8) v = x.set ((p + i) / 8) v ++ [1] := fun v => List.set_append_left _ _ h3
        simp only [if_pos (show ((p + i : Nat) : Int) < 2040 by omega), if_pos (show (0 : Int) ≤ (((p + i) / 8 : Nat) : Int) by omega), if_pos (show (((p + i) / 8 : Nat) : Int) < ((x ++ [1]).length : Int) by simp; omega), if_pos (show (0 : Int) ≤ (((p + i) % 8 : Nat) : Int) by omega), hrd, e6, Int.toNat_natCast, hset]
        exact ih (i + 1) _ _ (by omega) (by omega) (h.flip (by rw [ht]; exact decide_eq_true h1) h3)
      · simp only [if_neg (show ¬ ((p + i : Nat) : Int) < 2040 by omega)]
        exact ih (i + 1) _ _ (by omega) (by omega) (h.skip (.inr (by omega)))
    · simp only [if_neg (show ¬ (((w / 2 ^ i % 2 : Nat) : Int) = 1) by omega)]
      exact ih (i + 1) _ _ (by omega) (by omega) (h.skip (.inl (by rw [ht]; exact decide_eq_false h1)))
end
theorem RecordBursts : batonlaw22_RecordBursts.Pure := by
  intro g n d a w _ _ hdw ha hw
  have hd : Bytes d := bytes_of hdw.2
  have ba := bounds_u16 ha
  have bw := bounds_u32 hw
  refine Ev.rounds ?_
  unfold batonlaw22_RecordBursts.f
  refine ev_bind awake22 ?_
  simp only [if_true]
  have jt : ∀ m, Ev (fun k => batonlaw22_RecordBursts.j0 k a w m true) true := fun m => by
    apply ev_succ
    simp only [batonlaw22_RecordBursts.j0, if_true]
    exact ev_some _
  refine ev_bind (Make_ev2 g n d hd) ?_
  unfold mkS
  by_cases h : okR g n
  · by_cases c2 : d.length > 234
    · simp only [if_pos h, if_pos c2, if_neg (show ¬ (22 : Int) = 0 by decide)]
      exact jt _
    · simp only [if_pos h, if_neg c2, if_true]
      by_cases c3 : w = 0
      · rw [show (w == 0) = true from beq_iff_eq.2 c3]
        exact jt _
      · rw [show (w == 0) = false from beq_eq_false_iff_ne.2 c3]
        have hl := made_len g n d (by omega)
        have hb := made_bytes g n d hd (by omega)
        have hbl := body_len g n d (by omega)
        have hok : le4 (sumS 0 ((body g n d ++ le4 (sumS 0 (body g n d))).take 251)) = (body g n d ++ le4 (sumS 0 (body g n d))).drop 251 := by
          rw [List.take_append_of_le_length (by omega), List.take_of_length_le (by omega), List.drop_append_of_le_length (by omega), List.drop_of_length_le (by omega), List.nil_append]
        obtain ⟨W, rfl⟩ := Int.eq_ofNat_of_zero_le bw.1
        obtain ⟨p, hp⟩ : ∃ p : Nat, Int.tmod (wrap64 a) 2040 = (p : Int) := by
          rw [w64 (by omega) (by omega), Int.tmod_eq_emod_of_nonneg ba.1]
          exact Int.eq_ofNat_of_zero_le (by omega)
        have hp2 : p < 2040 := by
          rw [w64 (by omega) (by omega), Int.tmod_eq_emod_of_nonneg ba.1] at hp
          omega
        apply ev_succ
        simp only [batonlaw22_RecordBursts.j0, Bool.false_eq_true, if_false, Marked_f _ 0 true (show _ ≤ _ by rw [hl]; omega), Option.bind_some, if_true]
        have := Bursts_l0 (body g n d ++ le4 (sumS 0 (body g n d))) hb hl hok a p W hp hp2 (by omega) 32 0 (body g n d ++ le4 (sumS 0 (body g n d))) false (by omega) (by omega) ⟨rfl, hb, fun j _ => ?_, ?_⟩
        · rw [Nat.pow_zero, Nat.div_one] at this
          exact this
        · rw [show (decide (p ≤ j) && decide (j < p + 0) && W.testBit (j - p)) = false from by
            by_cases c : p ≤ j
            · rw [decide_eq_false (show ¬ j < p + 0 by omega), Bool.and_false, Bool.false_and]
            · rw [decide_eq_false c, Bool.false_and, Bool.false_and], Bool.xor_false]
        · exact Iff.intro (fun h => by cases h) (fun ⟨s, h, _⟩ => absurd h (Nat.not_lt_zero s))
  · simp only [if_neg h, if_neg (show ¬ (1 : Int) = 0 by decide)]
    exact jt _

end Go.Proofs.Ytaiiegbhbadciaa.Pure
