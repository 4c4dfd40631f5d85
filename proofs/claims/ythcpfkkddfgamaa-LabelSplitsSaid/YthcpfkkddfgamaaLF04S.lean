/- Plain lemmas on the functions of this family (LabelSplits): what each loop comes to. No condition. -/
import Derived.Test.YthcpfkkddfgamaaBase
import Derived.Test.YthcpfkkddfgamaaPF04Sx
namespace Go.Proofs.Ythcpfkkddfgamaa.LF04S
open Go.RowKit Go.Proofs.Ythcpfkkddfgamaa.Base Go.Proofs.YthcpfkkddfgamaaW.PrintWords Go.Proofs.YthcpfkkddfgamaaW.PrintMore Go.Proofs.Ythcpfkkddfgamaa.PF04S
set_option linter.unusedVariables false
set_option linter.unusedSimpArgs false

/-! ### batonref01 -/
theorem Same_l0 (a b : List Int) (h : a.length = b.length) (hl : a.length ≤ 9000000000000000000) : ∀ (d i : Nat), a.length - i = d → i ≤ a.length → Ev (fun k => batonref01_Same.l0 k a b (i : Int)) (decide (a.drop i = b.drop i)) := by
  intro d
  induction d with
  | zero =>
    intro i hd hi
    obtain rfl : i = a.length := by omega
    apply ev_succ
    simp only [batonref01_Same.l0, if_neg (show ¬ ((a.length : Int) < (a.length : Int)) by omega)]
    exact ev_eq (ev_some _) (by simp [h])
  | succ d ih =>
    intro i hd hi
    have hlt : i < a.length := by omega
    have hltb : i < b.length := by omega
    have hw : wrap64 ((i : Int) + 1) = ((i + 1 : Nat) : Int) := by rw [w64 (by omega) (by omega)]; omega
    apply ev_succ
    simp only [batonref01_Same.l0, if_pos (show (i : Int) < (a.length : Int) by omega), if_pos (show (0 : Int) ≤ (i : Int) by omega), if_pos (show (i : Int) < (b.length : Int) by omega), rd_lt hlt, rd_lt hltb, hw]
    have key : (a.drop i = b.drop i) ↔ (a[i] = b[i] ∧ a.drop (i + 1) = b.drop (i + 1)) := by
      rw [List.drop_eq_getElem_cons hlt, List.drop_eq_getElem_cons hltb]
      exact List.cons_eq_cons
    by_cases e : a[i] = b[i]
    · simp only [if_pos e]
      refine ev_eq (ih (i + 1) (by omega) (by omega)) ?_
      simp only [key, e, true_and]
    · simp only [if_neg e]
      refine ev_eq (ev_some _) ?_
      simp only [key, e, false_and, decide_false]
theorem Same_ev (a b : List Int) (hl : a.length ≤ 9000000000000000000) : Ev (fun k => batonref01_Same.f k a b) (decide (a = b)) := by
  unfold batonref01_Same.f
  by_cases h : a.length = b.length
  · simp only [if_pos (show (a.length : Int) = (b.length : Int) by omega)]
    exact ev_eq (Same_l0 a b h hl a.length 0 (by omega) (by omega)) (by simp)
  · simp only [if_neg (show ¬ ((a.length : Int) = (b.length : Int)) by omega)]
    exact ev_eq (ev_some _) (by simp; intro e; exact h (by rw [e]))

/-! ### numbers out of bytes -/
def stepN (n b : Int) : Int := n * 256 % 18446744073709551616 + b
def num (xs : List Int) : Int := xs.foldl stepN 0
theorem stepN_range {n b : Int} (hn : 0 ≤ n) (hb : 0 ≤ b ∧ b ≤ 255) : 0 ≤ stepN n b ∧ stepN n b ≤ 18446744073709551615 := by unfold stepN; omega

/-! ### word.Put, word.Get -/
/-- The lowest s bytes of n, the highest first. -/
def be : Nat → Int → List Int
  | 0, _ => []
  | s + 1, n => (n / 2 ^ (8 * s) % 256) :: be s n
theorem be_length (s : Nat) (n : Int) : (be s n).length = s := by induction s with
  | zero => rfl
  | succ s ih => simp [be, ih]
theorem be_bytes (s : Nat) (n : Int) : Bytes (be s n) := by
  induction s with
  | zero => intro x hx; cases hx
  | succ s ih =>
    intro x hx
    simp only [be, List.mem_cons] at hx
    rcases hx with rfl | hx
    · omega
    · exact ih x hx
theorem set_rep (m : Nat) (t : List Int) (v : Int) : (List.replicate (m + 1) 0 ++ t).set m v = List.replicate m 0 ++ v :: t := by
  induction m with
  | zero => rfl
  | succ m ih => rw [List.replicate_succ, List.cons_append, List.set_cons_succ, ih, List.replicate_succ, List.cons_append]
theorem Put_l0 (n : Int) (size : Nat) (hs : size ≤ 8) (h0 : 0 ≤ n) (h1 : n ≤ 18446744073709551615) : ∀ (d i : Nat), size - i = d → i ≤ size →
    Ev (fun k => word_Put.l0 k n (size : Int) (List.replicate (size - i) 0 ++ be i n) (size : Int) (i : Int)) (be size n, 0) := by
  intro d
  induction d with
  | zero =>
    intro i hd hi
    obtain rfl : i = size := by omega
    apply ev_succ
    simp only [word_Put.l0, if_neg (show ¬ ((i : Int) < (i : Int)) by omega)]
    exact ev_eq (ev_some _) (by simp)
  | succ d ih =>
    intro i hd hi
    have hlt : i < size := by omega
    have hw : wrap64 ((i : Int) + 1) = ((i + 1 : Nat) : Int) := by rw [w64 (by omega) (by omega)]; omega
    have hq : IntKind.u64.wrap (wrap64 (8 * (i : Int))) = ((8 * i : Nat) : Int) := by rw [w64 (by omega) (by omega), u64 (by omega) (by omega)]; omega
    have hp : wrap64 (wrap64 ((size : Int) - 1) - (i : Int)) = ((size - 1 - i : Nat) : Int) := by rw [w64 (x := (size : Int) - 1) (by omega) (by omega), w64 (by omega) (by omega)]; omega
    have hlen : (List.replicate (size - i) (0 : Int) ++ be i n).length = size := by rw [List.length_append, List.length_replicate, be_length]; omega
    have hsh : shr .u64 n ((8 * i : Nat) : Int) % 256 = n / 2 ^ (8 * i) % 256 := by
      unfold shr
      rw [Int.toNat_natCast, Nat.min_eq_left (by show 8 * i ≤ 64; omega)]
    apply ev_succ
    simp only [word_Put.l0, if_pos (show (i : Int) < (size : Int) by omega), hq, hp, if_pos (show (0 : Int) ≤ ((8 * i : Nat) : Int) by omega), if_pos (show (0 : Int) ≤ ((size - 1 - i : Nat) : Int) by omega), hlen, if_pos (show ((size - 1 - i : Nat) : Int) < (size : Int) by omega), hw, Int.toNat_natCast, hsh]
    have e : (List.replicate (size - i) (0 : Int) ++ be i n).set (size - 1 - i) (n / 2 ^ (8 * i) % 256) = List.replicate (size - (i + 1)) 0 ++ be (i + 1) n := by
      obtain ⟨m, hm⟩ : ∃ m, size - i = m + 1 := ⟨size - i - 1, by omega⟩
      rw [hm, show size - 1 - i = m by omega, set_rep, show size - (i + 1) = m by omega]
      rfl
    rw [e]
    exact ih (i + 1) (by omega) (by omega)
def putSpec (n size : Int) : List Int × Int := if size < 1 ∨ size > 8 then ([], 1) else if size < 8 ∧ n / 2 ^ (8 * size).toNat ≠ 0 then ([], 22) else (be size.toNat n, 0)
theorem Put_ev (n size : Int) (h0 : 0 ≤ n) (h1 : n ≤ 18446744073709551615) : Ev (fun k => word_Put.f k n size) (putSpec n size) := by
  unfold word_Put.f putSpec
  by_cases c1 : size < 1
  · simp only [if_pos c1, if_pos (show size < 1 ∨ size > 8 from .inl c1)]
    apply ev_succ
    simp only [word_Put.j0, if_true]
    exact ev_some _
  · simp only [if_neg c1]
    apply ev_succ
    by_cases c2 : size > 8
    · simp only [word_Put.j0, decide_eq_true c2, if_true, if_pos (show size < 1 ∨ size > 8 from .inr c2)]
      exact ev_some _
    · rw [if_neg (show ¬ (size < 1 ∨ size > 8) by omega)]
      simp only [word_Put.j0, decide_eq_false c2, if_false, Bool.false_eq_true]
      obtain ⟨s, rfl⟩ := Int.eq_ofNat_of_zero_le (show 0 ≤ size by omega)
      have last : Ev (fun k => word_Put.j1 k n (s : Int) false) (be s n, 0) := by
        apply ev_succ
        have hle : s ≤ 281474976710656 := by omega
        simp only [word_Put.j1, if_false, Bool.false_eq_true, if_pos (show (0 : Int) ≤ (s : Int) by omega), Int.toNat_natCast, if_pos hle, Option.bind_some, List.length_replicate]
        have := Put_l0 n s (by omega) h0 h1 s 0 (by omega) (by omega)
        simpa [be] using this
      by_cases c3 : (s : Int) < 8
      · have hq : IntKind.u64.wrap (wrap64 (8 * (s : Int))) = ((8 * s : Nat) : Int) := by rw [w64 (by omega) (by omega), u64 (by omega) (by omega)]; omega
        have hsh : shr .u64 n ((8 * s : Nat) : Int) = n / 2 ^ (8 * s) := by
          unfold shr
          rw [Int.toNat_natCast, Nat.min_eq_left (by show 8 * s ≤ 64; omega)]
        have ht : (8 * (s : Int)).toNat = 8 * s := by omega
        simp only [if_pos c3, hq, if_pos (show (0 : Int) ≤ ((8 * s : Nat) : Int) by omega), hsh, ht, Int.toNat_natCast]
        by_cases c4 : n / 2 ^ (8 * s) = 0
        · rw [if_neg (show ¬ ((s : Int) < 8 ∧ n / 2 ^ (8 * s) ≠ 0) from fun h => h.2 c4)]
          simp only [c4, bne_self_eq_false]
          exact last
        · rw [if_pos ⟨c3, c4⟩]
          have : (n / 2 ^ (8 * s) != 0) = true := by simpa using c4
          simp only [this]
          apply ev_succ
          simp only [word_Put.j1, if_true]
          exact ev_some _
      · simp only [if_neg c3, Int.toNat_natCast]
        rw [if_neg (show ¬ ((s : Int) < 8 ∧ _) from fun h => c3 h.1)]
        exact last
theorem Get_l0 (xs : List Int) (hx : Bytes xs) (hl : xs.length ≤ 9000000000000000000) : ∀ (d i : Nat) (acc : Int), xs.length - i = d → i ≤ xs.length → 0 ≤ acc → acc ≤ 18446744073709551615 → Ev (fun k => word_Get.l0 k acc xs (xs.length : Int) (i : Int)) ((xs.drop i).foldl stepN acc, 0) := by
  intro d
  induction d with
  | zero =>
    intro i acc hd hi h0 h1
    obtain rfl : i = xs.length := by omega
    apply ev_succ
    simp only [word_Get.l0, if_neg (show ¬ ((xs.length : Int) < (xs.length : Int)) by omega)]
    exact ev_eq (ev_some _) (by simp)
  | succ d ih =>
    intro i acc hd hi h0 h1
    have hlt : i < xs.length := by omega
    have hw : wrap64 ((i : Int) + 1) = ((i + 1 : Nat) : Int) := by rw [w64 (by omega) (by omega)]; omega
    have hb := hx.rd (i := (i : Int)) (by omega) (by omega)
    rw [rd_lt hlt] at hb
    have hs := stepN_range h0 hb
    have e : Go.bits .or .u64 (IntKind.u64.wrap (acc * 256)) (IntKind.u64.wrap (rd xs (i : Int))) = stepN acc xs[i] := by
      rw [rd_lt hlt, u64m (acc * 256), u64 hb.1 (by omega)]
      rw [or_u64_join 8 (by omega) (by omega) (by omega) (by omega) (by omega) (by omega)]
      rfl
    apply ev_succ
    simp only [word_Get.l0, if_pos (show (i : Int) < (xs.length : Int) by omega), if_pos (show (0 : Int) ≤ (i : Int) by omega), hw, e]
    refine ev_eq (ih (i + 1) _ (by omega) (by omega) hs.1 hs.2) ?_
    rw [List.drop_eq_getElem_cons hlt, List.foldl_cons]
def getSpec (xs : List Int) : Int × Int := if xs.length < 1 ∨ 8 < xs.length then (0, 1) else (num xs, 0)
theorem Get_ev (xs : List Int) (hx : Bytes xs) (hl : xs.length ≤ 9000000000000000000) : Ev (fun k => word_Get.f k xs) (getSpec xs) := by
  unfold word_Get.f getSpec
  by_cases c1 : (xs.length : Int) < 1
  · simp only [if_pos c1, if_pos (show xs.length < 1 ∨ 8 < xs.length by omega)]
    apply ev_succ
    simp only [word_Get.j0, if_true]
    exact ev_some _
  · simp only [if_neg c1]
    apply ev_succ
    by_cases c2 : (xs.length : Int) > 8
    · simp only [word_Get.j0, decide_eq_true c2, if_true, if_pos (show xs.length < 1 ∨ 8 < xs.length by omega)]
      exact ev_some _
    · rw [if_neg (show ¬ (xs.length < 1 ∨ 8 < xs.length) by omega)]
      simp only [word_Get.j0, decide_eq_false c2, if_false, Bool.false_eq_true]
      exact Get_l0 xs hx hl xs.length 0 0 (by omega) (by omega) (by omega) (by omega)
theorem pow8 (s : Nat) : (2 : Nat) ^ (8 * s) = 256 ^ s := by rw [Nat.pow_mul]
theorem num_be_aux (n : Nat) : ∀ (s a : Nat), (a + 1) * 256 ^ s ≤ 18446744073709551616 → (be s (n : Int)).foldl stepN (a : Int) = ((a * 256 ^ s + n % 256 ^ s : Nat) : Int) := by
  intro s
  induction s with
  | zero => intro a h; simp [be, Nat.mod_one]
  | succ s ih =>
    intro a h
    have h256 : 1 ≤ 256 ^ s := by have := Nat.two_pow_pos (8 * s); rw [pow8] at this; exact this
    have hpow : 256 ^ (s + 1) = 256 * 256 ^ s := by rw [Nat.pow_succ, Nat.mul_comm]
    rw [hpow] at h
    have ha : (a + 1) * 256 ≤ 18446744073709551616 := by
      have h2 : (a + 1) * 256 * 256 ^ s ≤ 18446744073709551616 := by rw [Nat.mul_assoc]; exact h
      exact Nat.le_trans (Nat.le_mul_of_pos_right _ h256) h2
    simp only [be, List.foldl_cons]
    have e : stepN (a : Int) ((n : Int) / 2 ^ (8 * s) % 256) = ((a * 256 + n / 256 ^ s % 256 : Nat) : Int) := by
      unfold stepN
      rw [show (2 : Int) ^ (8 * s) = ((256 ^ s : Nat) : Int) by rw [← pow8]; simp]
      rw [← Int.natCast_ediv]
      omega
    rw [e, ih]
    · have hm : n % (256 * 256 ^ s) = n % 256 ^ s + 256 ^ s * (n / 256 ^ s % 256) := by rw [Nat.mul_comm 256]; exact Nat.mod_mul
      rw [hpow, hm, Nat.add_mul, Nat.mul_assoc, Nat.mul_comm (n / 256 ^ s % 256)]
      omega
    · have : (a * 256 + n / 256 ^ s % 256 + 1) ≤ (a + 1) * 256 := by omega
      have h2 := Nat.mul_le_mul_right (256 ^ s) this
      rw [Nat.mul_assoc] at h2
      exact Nat.le_trans h2 h
theorem num_be {n : Int} {s : Nat} (hs : s ≤ 8) (h0 : 0 ≤ n) (hn : n < 2 ^ (8 * s)) : num (be s n) = n := by
  obtain ⟨m, rfl⟩ := Int.eq_ofNat_of_zero_le h0
  have hm : m < 256 ^ s := by
    have : (2 : Int) ^ (8 * s) = ((256 ^ s : Nat) : Int) := by rw [← pow8]; simp
    rw [this] at hn
    omega
  have h8 : 256 ^ s ≤ 18446744073709551616 := by
    have := Nat.pow_le_pow_right (show 0 < 256 by decide) hs
    simpa using this
  have := num_be_aux m s 0 (by simpa using h8)
  unfold num
  rw [show (0 : Int) = ((0 : Nat) : Int) from rfl, this, Nat.mod_eq_of_lt hm]
  simp

/-! ### label -/
theorem be4 (n : Int) : be 4 n = [n / 16777216 % 256, n / 65536 % 256, n / 256 % 256, n % 256] := by
  simp [be]
theorem num4 {a b c d : Int} (ha : 0 ≤ a ∧ a ≤ 255) (hb : 0 ≤ b ∧ b ≤ 255) (hc : 0 ≤ c ∧ c ≤ 255) (hd : 0 ≤ d ∧ d ≤ 255) : num [a, b, c, d] = a * 16777216 + b * 65536 + c * 256 + d := by
  unfold num stepN
  simp only [List.foldl_cons, List.foldl_nil]
  omega
theorem be4_num {a b c d : Int} (ha : 0 ≤ a ∧ a ≤ 255) (hb : 0 ≤ b ∧ b ≤ 255) (hc : 0 ≤ c ∧ c ≤ 255) (hd : 0 ≤ d ∧ d ≤ 255) : be 4 (num [a, b, c, d]) = [a, b, c, d] := by
  rw [num4 ha hb hc hd, be4]
  simp only [List.cons.injEq, and_true]
  omega
theorem rdL1 (l : List (List Int)) (i : Nat) (h : i < l.length) : rd_L1 l (i : Int) = l[i] := by
  unfold rd_L1
  simp [List.getD_eq_getElem?_getD, h]
def encP (p : List Int) : List Int := be 4 (p.length : Int) ++ p
def enc (l : List (List Int)) : List Int := l.flatMap encP
theorem encP_len (p : List Int) : (encP p).length = 4 + p.length := by
  unfold encP
  rw [List.length_append, be_length]
theorem enc_snoc (l : List (List Int)) (i : Nat) (h : i < l.length) : enc (l.take (i + 1)) = enc (l.take i) ++ encP l[i] := by
  unfold enc
  rw [List.take_succ_eq_append_getElem h, List.flatMap_append]
  simp
theorem enc_len (l : List (List Int)) (hp : ∀ p ∈ l, p.length ≤ 1048576) : (enc l).length ≤ l.length * 1048580 := by
  induction l with
  | nil => simp [enc]
  | cons p l ih =>
    have h1 := hp p (List.mem_cons_self ..)
    have h2 := ih (fun q hq => hp q (List.mem_cons_of_mem _ hq))
    have e : enc (p :: l) = encP p ++ enc l := by simp [enc]
    rw [e, List.length_append, encP_len, List.length_cons]
    omega
theorem enc_len_take (l : List (List Int)) (hp : ∀ p ∈ l, p.length ≤ 1048576) (i : Nat) : (enc (l.take i)).length ≤ i * 1048580 := by
  have h := enc_len (l.take i) (fun p h => hp p (List.mem_of_mem_take h))
  have h2 : (l.take i).length ≤ i := by rw [List.length_take]; omega
  exact Nat.le_trans h (Nat.mul_le_mul_right _ h2)
theorem Join_l1 (l : List (List Int)) (c : Int) (hl : l.length ≤ 1000) (hp : ∀ p ∈ l, p.length ≤ 1048576) : ∀ (d i : Nat), l.length - i = d → i ≤ l.length → Ev (fun k => label_Join.l1 k (c :: enc (l.take i)) l (l.length : Int) (i : Int)) (c :: enc l, 0) := by
  intro d
  induction d with
  | zero =>
    intro i hd hi
    obtain rfl : i = l.length := by omega
    apply ev_succ
    simp only [label_Join.l1, if_neg (show ¬ ((l.length : Int) < (l.length : Int)) by omega), List.take_length]
    exact ev_some _
  | succ d ih =>
    intro i hd hi
    have hlt : i < l.length := by omega
    have hw : wrap64 ((i : Int) + 1) = ((i + 1 : Nat) : Int) := by rw [w64 (by omega) (by omega)]; omega
    have hpi : l[i].length ≤ 1048576 := hp _ (List.getElem_mem hlt)
    have hbl := be_length 4 (l[i].length : Int)
    have hel := enc_len_take l hp i
    apply ev_succ
    simp only [label_Join.l1, if_pos (show (i : Int) < (l.length : Int) by omega), if_pos (show (0 : Int) ≤ (i : Int) by omega), rdL1 l i hlt, hw, u64 (show (0 : Int) ≤ (l[i].length : Int) by omega) (by omega)]
    refine ev_bind (Put_ev (l[i].length : Int) 4 (by omega) (by omega)) ?_
    have hps : putSpec (l[i].length : Int) 4 = (be 4 (l[i].length : Int), 0) := by
      unfold putSpec
      rw [if_neg (by omega), if_neg]
      · rfl
      · rintro ⟨_, h⟩
        apply h
        rw [show (2 : Int) ^ ((8 * 4 : Int)).toNat = 4294967296 by simp]
        omega
    rw [hps]
    simp only [Option.bind_some, if_pos (show (c :: enc (l.take i)).length + (be 4 (l[i].length : Int)).length < 140737488355328 by rw [List.length_cons, hbl]; omega),
      if_pos (show ((c :: enc (l.take i)) ++ be 4 (l[i].length : Int)).length + l[i].length < 140737488355328 by rw [List.length_append, List.length_cons, hbl]; omega)]
    have e : (c :: enc (l.take i)) ++ be 4 (l[i].length : Int) ++ l[i] = c :: enc (l.take (i + 1)) := by rw [enc_snoc l i hlt]; simp [encP]
    rw [e]
    exact ih (i + 1) (by omega) (by omega)
theorem Join_l0 (l : List (List Int)) (hl : l.length ≤ 64) (hp : ∀ p ∈ l, p.length ≤ 1048576) : ∀ (d i : Nat), l.length - i = d → i ≤ l.length → Ev (fun k => label_Join.l0 k l l (l.length : Int) (i : Int)) ((l.length : Int) :: enc l, 0) := by
  intro d
  induction d with
  | zero =>
    intro i hd hi
    obtain rfl : i = l.length := by omega
    apply ev_succ
    simp only [label_Join.l0, if_neg (show ¬ ((l.length : Int) < (l.length : Int)) by omega), show (l.length : Int) % 256 = (l.length : Int) by omega]
    exact Join_l1 l _ (by omega) hp l.length 0 (by omega) (by omega)
  | succ d ih =>
    intro i hd hi
    have hlt : i < l.length := by omega
    have hw : wrap64 ((i : Int) + 1) = ((i + 1 : Nat) : Int) := by rw [w64 (by omega) (by omega)]; omega
    have hpi : l[i].length ≤ 1048576 := hp _ (List.getElem_mem hlt)
    apply ev_succ
    simp only [label_Join.l0, if_pos (show (i : Int) < (l.length : Int) by omega), if_pos (show (0 : Int) ≤ (i : Int) by omega), rdL1 l i hlt, hw, if_neg (show ¬ (l[i].length : Int) > 1048576 by omega)]
    exact ih (i + 1) (by omega) (by omega)
theorem Join_ev (l : List (List Int)) (hl : l.length ≤ 64) (hp : ∀ p ∈ l, p.length ≤ 1048576) : Ev (fun k => label_Join.f k l) ((l.length : Int) :: enc l, 0) := by
  simp only [label_Join.f, if_neg (show ¬ (l.length : Int) > 64 by omega)]
  exact Join_l0 l hl hp l.length 0 (by omega) (by omega)

/-! the parts of a text -/
def partSpec (r : List Int) : List Int × List Int × Int :=
  if r.length < 4 then ([], [], 4) else if num (r.take 4) > 1048576 then ([], [], 22) else if num (r.take 4) > (r.length : Int) - 4 then ([], [], 4)
  else ((r.drop 4).take (num (r.take 4)).toNat, (r.drop 4).drop (num (r.take 4)).toNat, 0)
theorem four_of {r : List Int} (h : ¬ r.length < 4) : ∃ a b c d t, r = a :: b :: c :: d :: t := by
  match r, h with
  | a :: b :: c :: d :: t, _ => exact ⟨a, b, c, d, t, rfl⟩
  | [], h => exact absurd (by simp) h
  | [_], h => exact absurd (by simp) h
  | [_, _], h => exact absurd (by simp) h
  | [_, _, _], h => exact absurd (by simp) h
theorem part_ev (r : List Int) (hb : Bytes r) (hl : r.length ≤ 1000000000) : Ev (fun k => label_part.f k r) (partSpec r) := by
  by_cases c1 : r.length < 4
  · simp only [label_part.f, partSpec, if_pos c1, if_pos (show (r.length : Int) < 4 by omega)]
    exact ev_some _
  · obtain ⟨a, b, c, d, t, rfl⟩ := four_of c1
    have ha := hb a (by simp)
    have hb' := hb b (by simp)
    have hc := hb c (by simp)
    have hd := hb d (by simp)
    have hn := num4 ha hb' hc hd
    have hlen : ((a :: b :: c :: d :: t).length : Int) = (t.length : Int) + 4 := by simp; omega
    have hlen' : (a :: b :: c :: d :: t).length = t.length + 4 := by simp
    simp only [label_part.f, partSpec, if_neg c1, if_neg (show ¬ ((a :: b :: c :: d :: t).length : Int) < 4 by omega), if_pos (show (4 : Int) ≤ ((a :: b :: c :: d :: t).length : Int) by omega)]
    rw [show (a :: b :: c :: d :: t).take 4 = [a, b, c, d] from rfl, show (a :: b :: c :: d :: t).drop 4 = t from rfl]
    refine ev_bind (Get_ev [a, b, c, d] (fun x hx => hb x (by simp at hx ⊢; omega)) (by simp)) ?_
    rw [show getSpec [a, b, c, d] = (num [a, b, c, d], 0) from rfl]
    generalize num [a, b, c, d] = n at hn ⊢
    have ht : IntKind.u64.wrap (t.length : Int) = (t.length : Int) := u64 (by omega) (by omega)
    simp only [Option.bind_some, ht, hlen]
    by_cases c2 : n > 1048576
    · simp only [if_pos c2]
      exact ev_some _
    · by_cases c3 : n > (t.length : Int)
      · simp only [if_neg c2, if_pos c3, if_pos (show n > (t.length : Int) + 4 - 4 by omega)]
        exact ev_some _
      · simp only [if_neg c2, if_neg c3, if_neg (show ¬ n > (t.length : Int) + 4 - 4 by omega), if_pos (show 0 ≤ n by omega), if_pos (show n ≤ (t.length : Int) by omega), slices_Clone_byte_byte.f, if_pos (show (t.take n.toNat).length < 140737488355328 by rw [List.length_take]; omega), Option.bind_some]
        exact ev_some _
def sp : Nat → List (List Int) → List Int → List (List Int) × Int
  | 0, acc, r => if r.length > 0 then ([], 5) else (acc, 0)
  | m + 1, acc, r => if (partSpec r).2.2 = 0 then sp m (acc ++ [(partSpec r).1]) (partSpec r).2.1 else ([], (partSpec r).2.2)
theorem part_rest (r : List Int) (hb : Bytes r) : Bytes (partSpec r).2.1 ∧ (partSpec r).2.1.length ≤ r.length := by
  have hn : Bytes ([] : List Int) := fun x hx => by cases hx
  unfold partSpec
  split
  · exact ⟨hn, Nat.zero_le _⟩
  · split
    · exact ⟨hn, Nat.zero_le _⟩
    · split
      · exact ⟨hn, Nat.zero_le _⟩
      · refine ⟨(hb.drop _).drop _, ?_⟩
        simp only [List.length_drop]
        omega
theorem Split_l0 (m : Nat) (hm : m ≤ 64) : ∀ (d i : Nat) (acc : List (List Int)) (r : List Int), m - i = d → i ≤ m → acc.length ≤ i → Bytes r → r.length ≤ 1000000000 → Ev (fun k => label_Split.l0 k acc r (m : Int) (i : Int)) (sp d acc r) := by
  intro d
  induction d with
  | zero =>
    intro i acc r hd hi ha hb hl
    obtain rfl : i = m := by omega
    apply ev_succ
    simp only [label_Split.l0, if_neg (show ¬ ((i : Int) < (i : Int)) by omega), sp]
    by_cases c : r.length > 0
    · simp only [if_pos c, if_pos (show (r.length : Int) > 0 by omega)]
      exact ev_some _
    · simp only [if_neg c, if_neg (show ¬ (r.length : Int) > 0 by omega)]
      exact ev_some _
  | succ d ih =>
    intro i acc r hd hi ha hb hl
    obtain ⟨h1, h2⟩ := part_rest r hb
    apply ev_succ
    simp only [label_Split.l0, if_pos (show (i : Int) < (m : Int) by omega), sp]
    refine ev_bind (part_ev r hb hl) ?_
    by_cases c : (partSpec r).2.2 = 0
    · simp only [if_pos c, if_pos (show acc.length < 5864062014805 by omega), show ((i : Int) + 1) % 256 = ((i + 1 : Nat) : Int) by omega]
      exact ih (i + 1) _ _ (by omega) (by omega) (by rw [List.length_append, List.length_singleton]; omega) h1 (by omega)
    · simp only [if_neg c]
      exact ev_some _
def splitSpec : List Int → List (List Int) × Int
  | [] => ([], 4)
  | c :: r => if c > 64 then ([], 2) else sp c.toNat [] r
theorem Split_ev (b : List Int) (hb : Bytes b) (hl : b.length ≤ 1000000000) : Ev (fun k => label_Split.f k b) (splitSpec b) := by
  cases b with
  | nil => exact ev_some _
  | cons c r =>
    have hc := hb c (by simp)
    have hlen : ((c :: r).length : Int) = (r.length : Int) + 1 := by simp
    have hlr : r.length + 1 ≤ 1000000000 := by simpa using hl
    have h0 : rd (c :: r) 0 = c := rfl
    simp only [label_Split.f, h0, splitSpec, if_neg (show ¬ ((c :: r).length : Int) = 0 by omega), if_pos (show 0 < ((c :: r).length : Int) by omega), if_pos (show 1 ≤ ((c :: r).length : Int) by omega)]
    by_cases c1 : c > 64
    · simp only [if_pos c1]
      exact ev_some _
    · simp only [if_neg c1]
      have := Split_l0 c.toNat (by omega) c.toNat 0 [] r (by omega) (by omega) (by simp) (fun x hx => hb x (List.mem_cons_of_mem _ hx)) (by omega)
      rw [show ((c.toNat : Nat) : Int) = c by omega] at this
      exact this
theorem four_wraps {x y z u : Int} (hx : 0 ≤ x ∧ x ≤ 255) (hy : 0 ≤ y ∧ y ≤ 255) (hz : 0 ≤ z ∧ z ≤ 255) (hu : 0 ≤ u ∧ u ≤ 255) :
    wrap64 (wrap64 (wrap64 (wrap64 (wrap64 x * 16777216) + wrap64 (wrap64 y * 65536)) + wrap64 (wrap64 z * 256)) + wrap64 u) = num [x, y, z, u] ∧ 0 ≤ num [x, y, z, u] := by
  have wx : wrap64 x = x := w64 (by omega) (by omega)
  have wy : wrap64 y = y := w64 (by omega) (by omega)
  have wz : wrap64 z = z := w64 (by omega) (by omega)
  have wu : wrap64 u = u := w64 (by omega) (by omega)
  have mx_ : wrap64 (x * 16777216) = x * 16777216 := w64 (by omega) (by omega)
  have my_ : wrap64 (y * 65536) = y * 65536 := w64 (by omega) (by omega)
  have mz_ : wrap64 (z * 256) = z * 256 := w64 (by omega) (by omega)
  have s1 : wrap64 (x * 16777216 + y * 65536) = x * 16777216 + y * 65536 := w64 (by omega) (by omega)
  have s2 : wrap64 (x * 16777216 + y * 65536 + z * 256) = x * 16777216 + y * 65536 + z * 256 := w64 (by omega) (by omega)
  have s3 : wrap64 (x * 16777216 + y * 65536 + z * 256 + u) = x * 16777216 + y * 65536 + z * 256 + u := w64 (by omega) (by omega)
  rw [wx, wy, wz, wu, mx_, my_, mz_, s1, s2, s3, num4 hx hy hz hu]
  exact ⟨rfl, by omega⟩
/-! the parts of the text of some parts -/
theorem sp_enc : ∀ (l acc : List (List Int)), (∀ p ∈ l, p.length ≤ 1048576) → sp l.length acc (enc l) = (acc ++ l, 0) := by
  intro l
  induction l with
  | nil => intro acc _; simp [sp, enc]
  | cons p l ih =>
    intro acc hp
    have h1 := hp p (List.mem_cons_self ..)
    have hn : num (be 4 (p.length : Int)) = (p.length : Int) := num_be (by decide) (by omega) (by rw [show (2 : Int) ^ (8 * 4) = 4294967296 by decide +kernel]; omega)
    have hbl := be_length 4 (p.length : Int)
    have e : enc (p :: l) = be 4 (p.length : Int) ++ (p ++ enc l) := by simp [enc, encP]
    have e1 : (enc (p :: l)).take 4 = be 4 (p.length : Int) := by rw [e, List.take_append_of_le_length (by omega), List.take_of_length_le (by omega)]
    have e2 : (enc (p :: l)).drop 4 = p ++ enc l := by rw [e, List.drop_append_of_le_length (by omega), List.drop_of_length_le (by omega)]; rfl
    have e3 : (enc (p :: l)).length = 4 + (p.length + (enc l).length) := by rw [e, List.length_append, List.length_append, hbl]
    have hps : partSpec (enc (p :: l)) = (p, enc l, 0) := by
      unfold partSpec
      rw [if_neg (by omega), e1, hn, if_neg (by omega), if_neg (by omega), e2, Int.toNat_natCast, List.take_left', List.drop_left'] <;> rfl
    rw [List.length_cons]
    simp only [sp, hps, if_true]
    rw [ih _ (fun q hq => hp q (List.mem_cons_of_mem _ hq))]
    simp
theorem sp_back : ∀ (m : Nat) (acc : List (List Int)) (r : List Int) (l : List (List Int)), Bytes r → sp m acc r = (l, 0) → ∃ l', l = acc ++ l' ∧ l'.length = m ∧ enc l' = r ∧ ∀ p ∈ l', p.length ≤ 1048576 := by
  intro m
  induction m with
  | zero =>
    intro acc r l hb h
    simp only [sp] at h
    split at h
    · simp at h
    · rename_i hr
      simp only [Prod.mk.injEq, and_true] at h
      have : r = [] := List.length_eq_zero_iff.1 (by omega)
      subst this
      exact ⟨[], by simp [h], rfl, rfl, fun p hp => by cases hp⟩
  | succ m ih =>
    intro acc r l hb h
    simp only [sp] at h
    split at h
    · rename_i hc
      obtain ⟨h1, h2⟩ := part_rest r hb
      obtain ⟨l', e1, e2, e3, e4⟩ := ih _ _ _ h1 h
      have hps : ¬ r.length < 4 ∧ ¬ num (r.take 4) > 1048576 ∧ ¬ num (r.take 4) > (r.length : Int) - 4 := by
        unfold partSpec at hc
        refine ⟨fun c => ?_, fun c => ?_, fun c => ?_⟩
        · rw [if_pos c] at hc
          exact absurd hc (by decide)
        · by_cases c1 : r.length < 4
          · rw [if_pos c1] at hc
            exact absurd hc (by decide)
          · rw [if_neg c1, if_pos c] at hc
            exact absurd hc (by decide)
        · by_cases c1 : r.length < 4
          · rw [if_pos c1] at hc
            exact absurd hc (by decide)
          · by_cases c2 : num (r.take 4) > 1048576
            · rw [if_neg c1, if_pos c2] at hc
              exact absurd hc (by decide)
            · rw [if_neg c1, if_neg c2, if_pos c] at hc
              exact absurd hc (by decide)
      obtain ⟨k1, k2, k3⟩ := hps
      have hv : partSpec r = ((r.drop 4).take (num (r.take 4)).toNat, (r.drop 4).drop (num (r.take 4)).toNat, 0) := by
        unfold partSpec
        rw [if_neg k1, if_neg k2, if_neg k3]
      obtain ⟨x, y, z, u, t, rfl⟩ := four_of k1
      have hx := hb x (by simp)
      have hy := hb y (by simp)
      have hz := hb z (by simp)
      have hu := hb u (by simp)
      have hn := num4 hx hy hz hu
      have hbn := be4_num hx hy hz hu
      rw [show (x :: y :: z :: u :: t).take 4 = [x, y, z, u] from rfl, show (x :: y :: z :: u :: t).drop 4 = t from rfl] at hv
      rw [show (x :: y :: z :: u :: t).take 4 = [x, y, z, u] from rfl] at k2 k3
      have hlen : ((x :: y :: z :: u :: t).length : Int) = (t.length : Int) + 4 := by simp; omega
      generalize num [x, y, z, u] = n at hn hbn hv k2 k3
      rw [hv] at e1 e3
      have hpl : (t.take n.toNat).length = n.toNat := by rw [List.length_take]; omega
      refine ⟨t.take n.toNat :: l', by rw [e1]; simp, by simp [e2], ?_, ?_⟩
      · have : enc (t.take n.toNat :: l') = be 4 ((t.take n.toNat).length : Int) ++ (t.take n.toNat ++ enc l') := by simp [enc, encP]
        rw [this, e3, hpl, show ((n.toNat : Nat) : Int) = n by omega, hbn, List.take_append_drop]
        rfl
      · intro p hp
        rcases List.mem_cons.1 hp with rfl | hp
        · omega
        · exact e4 p hp
    · rename_i hc
      simp only [Prod.mk.injEq] at h
      exact absurd h.2 hc

theorem same_l0 (a b : List (List Int)) (h : a.length = b.length) (hl : a.length ≤ 1000000) (hp : ∀ p ∈ a, p.length ≤ 9000000000000000000) : ∀ (d i : Nat), a.length - i = d → i ≤ a.length → Ev (fun k => batonlaw04_same.l0 k a b (i : Int)) (decide (a.drop i = b.drop i)) := by
  intro d
  induction d with
  | zero =>
    intro i hd hi
    obtain rfl : i = a.length := by omega
    apply ev_succ
    simp only [batonlaw04_same.l0, if_neg (show ¬ ((a.length : Int) < (a.length : Int)) by omega), List.drop_length]
    exact ev_eq (ev_some _) (by rw [h, List.drop_length]; simp)
  | succ d ih =>
    intro i hd hi
    have hlt : i < a.length := by omega
    have hlt' : i < b.length := by omega
    have hw : wrap64 ((i : Int) + 1) = ((i + 1 : Nat) : Int) := by rw [w64 (by omega) (by omega)]; omega
    apply ev_succ
    simp only [batonlaw04_same.l0, if_pos (show (i : Int) < (a.length : Int) by omega), if_pos (show (0 : Int) ≤ (i : Int) by omega), if_pos (show (i : Int) < (b.length : Int) by omega), rdL1 a i hlt, rdL1 b i hlt', hw]
    refine ev_bind (Same_ev _ _ (hp _ (List.getElem_mem hlt))) ?_
    have h1 := List.drop_eq_getElem_cons hlt
    have h2 := List.drop_eq_getElem_cons hlt'
    by_cases c : a[i] = b[i]
    · simp only [decide_eq_true c, if_true]
      refine ev_eq (ih (i + 1) (by omega) (by omega)) (decide_eq_decide.2 ⟨fun h => by rw [h1, h2, c, h], fun h => ?_⟩)
      rw [h1, h2] at h
      injection h
    · simp only [decide_eq_false c, Bool.false_eq_true, if_false]
      refine ev_eq (ev_some _) (decide_eq_false (fun h => c ?_)).symm
      rw [h1, h2] at h
      injection h
theorem same_ev (a b : List (List Int)) (hl : a.length ≤ 1000000) (hp : ∀ p ∈ a, p.length ≤ 9000000000000000000) : Ev (fun k => batonlaw04_same.f k a b) (decide (a = b)) := by
  by_cases c : a.length = b.length
  · simp only [batonlaw04_same.f, if_pos (show (a.length : Int) = (b.length : Int) by omega)]
    refine ev_eq (same_l0 a b c hl hp a.length 0 (by omega) (by omega)) ?_
    simp
  · simp only [batonlaw04_same.f, if_neg (show ¬ (a.length : Int) = (b.length : Int) by omega)]
    exact ev_eq (ev_some _) (decide_eq_false (fun e => c (by rw [e]))).symm
theorem awake04 : Ev (fun k => batonlaw04_awake.f k) true := Ev.of (fun k => batonlaw04_awake.mono k) (k := 40) (by decide +kernel)

/-! ### the reference's Split -/
theorem ev_ext {α : Type} {g g' : Nat → Option α} {r : α} (h : ∀ k, g k = g' k) (H : Ev g' r) : Ev g r := by
  rw [show g = g' from funext h]
  exact H
theorem wn {a : Nat} (h : a ≤ 1000000000000) : wrap64 (a : Int) = (a : Int) := w64 (by omega) (by omega)
theorem wr1 {a : Nat} (h : a ≤ 1000000000000) : wrap64 ((a : Int) + 1) = ((a + 1 : Nat) : Int) := by rw [w64 (by omega) (by omega)]; omega
theorem wr2 {a : Nat} (h : a ≤ 1000000000000) : wrap64 ((a : Int) + 2) = ((a + 2 : Nat) : Int) := by rw [w64 (by omega) (by omega)]; omega
theorem wr3 {a : Nat} (h : a ≤ 1000000000000) : wrap64 ((a : Int) + 3) = ((a + 3 : Nat) : Int) := by rw [w64 (by omega) (by omega)]; omega
theorem wr4 {a : Nat} (h : a ≤ 1000000000000) : wrap64 ((a : Int) + 4) = ((a + 4 : Nat) : Int) := by rw [w64 (by omega) (by omega)]; omega
theorem wrs {a b : Nat} (h : a ≤ 1000000000000) (hb : b ≤ 1000000000000) : wrap64 ((b : Int) - (a : Int)) = (b : Int) - (a : Int) := w64 (by omega) (by omega)
theorem wrn {a : Nat} {n : Int} (h : a ≤ 1000000000000) (h0 : 0 ≤ n) (h1 : n ≤ 1000000000000) : wrap64 ((a : Int) + n) = ((a + n.toNat : Nat) : Int) := by rw [w64 (by omega) (by omega)]; omega
theorem refSplit_l0 (b : List Int) (m : Nat) (hm : m ≤ 64) (hb0 : rd b 0 = (m : Int)) (hb : Bytes b) (hl : b.length ≤ 1000000000) (hpos : 0 < b.length) : ∀ (d i at_ : Nat) (acc : List (List Int)), m - i = d → i ≤ m → acc.length ≤ i → at_ ≤ b.length → Ev (fun k => batonref04_Split.l0 k b acc (at_ : Int) (i : Int)) (sp d acc (b.drop at_)) := by
  intro d
  have hm' : m ≤ 1000000000000 := by omega
  have hbl' : b.length ≤ 1000000000000 := by omega
  have hp0 : 0 < (b.length : Int) := by omega
  induction d with
  | zero =>
    intro i at_ acc hd hi ha hat
    have him : ¬ (i : Int) < (m : Int) := by omega
    apply ev_succ
    simp only [sp, List.length_drop]
    by_cases c : at_ < b.length
    · refine ev_ext (g' := fun _ => some ([], 5)) (fun k => ?_) ?_
      · rw [batonref04_Split.l0, if_pos hp0, hb0, wn hm', if_neg him, if_pos (show (at_ : Int) < (b.length : Int) by omega)]
      · rw [if_pos (show b.length - at_ > 0 by omega)]
        exact ev_some _
    · refine ev_ext (g' := fun _ => some (acc, 0)) (fun k => ?_) ?_
      · rw [batonref04_Split.l0, if_pos hp0, hb0, wn hm', if_neg him, if_neg (show ¬ (at_ : Int) < (b.length : Int) by omega)]
      · rw [if_neg (show ¬ b.length - at_ > 0 by omega)]
        exact ev_some _
  | succ d ih =>
    intro i at_ acc hd hi ha hat
    have hbr := hb.drop at_
    have him : (i : Int) < (m : Int) := by omega
    have hat' : at_ ≤ 1000000000000 := by omega
    have hat4 : at_ + 4 ≤ 1000000000000 := by omega
    have hi' : i ≤ 1000000000000 := by omega
    apply ev_succ
    simp only [sp]
    have hdl : (b.drop at_).length = b.length - at_ := List.length_drop ..
    by_cases c1 : (b.drop at_).length < 4
    · have hs : partSpec (b.drop at_) = ([], [], 4) := by unfold partSpec; rw [if_pos c1]
      rw [hs, if_neg (show ¬ (4 : Int) = 0 by decide)]
      refine ev_ext (g' := fun _ => some ([], 4)) (fun k => ?_) (ev_some _)
      rw [batonref04_Split.l0, if_pos hp0, hb0, wn hm', if_pos him, wrs hat' hbl', if_pos (show (b.length : Int) - (at_ : Int) < 4 by omega)]
    · have h4 : at_ + 4 ≤ b.length := by omega
      have q0 : ¬ (b.length : Int) - (at_ : Int) < 4 := by omega
      have p0 : (0 : Int) ≤ (at_ : Int) := by omega
      have p1 : (0 : Int) ≤ ((at_ + 1 : Nat) : Int) := by omega
      have p2 : (0 : Int) ≤ ((at_ + 2 : Nat) : Int) := by omega
      have p3 : (0 : Int) ≤ ((at_ + 3 : Nat) : Int) := by omega
      have p4 : (0 : Int) ≤ ((at_ + 4 : Nat) : Int) := by omega
      have l0 : (at_ : Int) < (b.length : Int) := by omega
      have l1 : ((at_ + 1 : Nat) : Int) < (b.length : Int) := by omega
      have l2 : ((at_ + 2 : Nat) : Int) < (b.length : Int) := by omega
      have l3 : ((at_ + 3 : Nat) : Int) < (b.length : Int) := by omega
      have rdx : ∀ (j : Nat) (v : Int) (l : List Int), j < 4 → b.drop at_ = l → l[j]? = some v → rd b ((at_ + j : Nat) : Int) = v := by
        intro j v l hj hl hv
        have hlt : at_ + j < b.length := by omega
        rw [rd_lt hlt]
        rw [← hl, List.getElem?_drop, List.getElem?_eq_getElem hlt] at hv
        exact Option.some.inj hv
      obtain ⟨x, y, z, u, t, hr⟩ := four_of c1
      rw [hr] at hbr
      have hx := hbr x (by simp)
      have hy := hbr y (by simp)
      have hz := hbr z (by simp)
      have hu := hbr u (by simp)
      obtain ⟨hE, hn⟩ := four_wraps hx hy hz hu
      have hlen : t.length + 4 = b.length - at_ := by rw [← hdl, hr]; simp
      have r0 : rd b (at_ : Int) = x := rdx 0 x _ (by decide) hr rfl
      have r1 : rd b ((at_ + 1 : Nat) : Int) = y := rdx 1 y _ (by decide) hr rfl
      have r2 : rd b ((at_ + 2 : Nat) : Int) = z := rdx 2 z _ (by decide) hr rfl
      have r3 : rd b ((at_ + 3 : Nat) : Int) = u := rdx 3 u _ (by decide) hr rfl
      have hps : partSpec (b.drop at_) = if num [x, y, z, u] > 1048576 then ([], [], 22) else if num [x, y, z, u] > (t.length : Int) then ([], [], 4) else (t.take (num [x, y, z, u]).toNat, t.drop (num [x, y, z, u]).toNat, 0) := by
        rw [hr]
        unfold partSpec
        rw [if_neg (by simp)]
        rw [show (x :: y :: z :: u :: t).take 4 = [x, y, z, u] from rfl, show (x :: y :: z :: u :: t).drop 4 = t from rfl, show ((x :: y :: z :: u :: t).length : Int) - 4 = (t.length : Int) by simp; omega]
      rw [hps]
      have e0 : ∀ k, batonref04_Split.l0 (k + 1) b acc (at_ : Int) (i : Int) = (if num [x, y, z, u] > 1048576 then some ([], 22) else if wrap64 ((b.length : Int) - ((at_ + 4 : Nat) : Int)) < num [x, y, z, u] then some ([], 4) else
          if (0 : Int) ≤ ((at_ + 4 : Nat) : Int) then if ((at_ + 4 : Nat) : Int) ≤ wrap64 (((at_ + 4 : Nat) : Int) + num [x, y, z, u]) then if wrap64 (((at_ + 4 : Nat) : Int) + num [x, y, z, u]) ≤ (b.length : Int) then if acc.length < 5864062014805 then
            batonref04_Split.l0 k b (acc ++ [((b.take (wrap64 (((at_ + 4 : Nat) : Int) + num [x, y, z, u])).toNat).drop ((at_ + 4 : Nat) : Int).toNat)]) (wrap64 (((at_ + 4 : Nat) : Int) + num [x, y, z, u])) (wrap64 ((i : Int) + 1)) else none else none else none else none) := by
        intro k
        rw [batonref04_Split.l0, if_pos hp0, hb0, wn hm', if_pos him, wrs hat' hbl', if_neg q0, if_pos p0, if_pos l0, wr1 hat', if_pos p1, if_pos l1, wr2 hat', if_pos p2, if_pos l2, wr3 hat', if_pos p3, if_pos l3, wr4 hat', r0, r1, r2, r3, hE]
      clear hE r0 r1 r2 r3 hx hy hz hu hbr hps
      generalize num [x, y, z, u] = n at hn e0 ⊢
      by_cases c2 : n > 1048576
      · rw [if_pos c2, if_neg (show ¬ (22 : Int) = 0 by decide)]
        refine ev_ext (g' := fun _ => some ([], 22)) (fun k => ?_) (ev_some _)
        rw [e0, if_pos c2]
      · have hn' : n ≤ 1000000000000 := by omega
        by_cases c3 : n > (t.length : Int)
        · rw [if_neg c2, if_pos c3, if_neg (show ¬ (4 : Int) = 0 by decide)]
          refine ev_ext (g' := fun _ => some ([], 4)) (fun k => ?_) (ev_some _)
          rw [e0, if_neg c2, wrs hat4 hbl', if_pos (show (b.length : Int) - ((at_ + 4 : Nat) : Int) < n by omega)]
        · have hdt : t = b.drop (at_ + 4) := by
            have : (b.drop at_).drop 4 = t := by rw [hr]; rfl
            rw [← this, List.drop_drop]
          have e1 : ((b.take (at_ + 4 + n.toNat)).drop (at_ + 4)) = t.take n.toNat := by rw [List.drop_take, hdt, show at_ + 4 + n.toNat - (at_ + 4) = n.toNat by omega]
          have e2 : t.drop n.toNat = b.drop (at_ + 4 + n.toNat) := by rw [hdt, List.drop_drop]
          rw [if_neg c2, if_neg c3]
          rw [if_pos rfl]
          simp only [e2]
          refine ev_ext (fun k => ?_) (ih (i + 1) (at_ + 4 + n.toNat) (acc ++ [t.take n.toNat]) (by omega) (by omega) (by rw [List.length_append, List.length_singleton]; omega) (by omega))
          rw [e0, if_neg c2, wrs hat4 hbl', if_neg (show ¬ (b.length : Int) - ((at_ + 4 : Nat) : Int) < n by omega), wrn hat4 hn hn', if_pos (show (0 : Int) ≤ ((at_ + 4 : Nat) : Int) by omega), if_pos (show ((at_ + 4 : Nat) : Int) ≤ ((at_ + 4 + n.toNat : Nat) : Int) by omega), if_pos (show ((at_ + 4 + n.toNat : Nat) : Int) ≤ (b.length : Int) by omega), if_pos (show acc.length < 5864062014805 by omega), wr1 hi', Int.toNat_natCast, Int.toNat_natCast, e1]
theorem refSplit_ev (b : List Int) (hb : Bytes b) (hl : b.length ≤ 1000000000) : Ev (fun k => batonref04_Split.f k b) (splitSpec b) := by
  cases b with
  | nil => exact ev_some _
  | cons c r =>
    have hc := hb c (by simp)
    have hlen : ((c :: r).length : Int) = (r.length : Int) + 1 := by simp
    have h0 : rd (c :: r) 0 = c := rfl
    simp only [batonref04_Split.f, h0, splitSpec, if_neg (show ¬ ((c :: r).length : Int) = 0 by omega), if_pos (show 0 < ((c :: r).length : Int) by omega)]
    by_cases c1 : c > 64
    · simp only [if_pos c1]
      exact ev_some _
    · simp only [if_neg c1]
      exact refSplit_l0 (c :: r) c.toNat (by omega) (by rw [h0]; omega) hb hl (by simp) c.toNat 0 1 [] (by omega) (by omega) (by simp) (by simp)

end Go.Proofs.Ythcpfkkddfgamaa.LF04S
