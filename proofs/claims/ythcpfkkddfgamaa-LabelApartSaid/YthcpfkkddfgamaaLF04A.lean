/- Plain lemmas on the functions of this family (LabelApart): what each loop comes to. No condition. -/
import Derived.Test.YthcpfkkddfgamaaBase
import Derived.Test.YthcpfkkddfgamaaPF04Ax
namespace Go.Proofs.Ythcpfkkddfgamaa.LF04A
open Go.RowKit Go.Proofs.Ythcpfkkddfgamaa.Base Go.Proofs.YthcpfkkddfgamaaW.PrintWords Go.Proofs.YthcpfkkddfgamaaW.PrintMore Go.Proofs.Ythcpfkkddfgamaa.PF04A
set_option linter.unusedVariables false
set_option linter.unusedSimpArgs false

/-! ### batonref01 -/
theorem Same_l0 (a b : List Int) (h : a.length = b.length) (hl : a.length ≤ 9000000000000000000) : ∀ (d i : Nat), a.length - i = d → i ≤ a.length → Ev (fun k => batonref01_Same.l0 k a b (i : Int)) (decide (a.drop i = b.drop i)) := by
  intro d
  induction d with
  | zero =>
    intro i hd hi
    obtain rfl : i = a.length := by omega
    apply ev_succ
    simp only [batonref01_Same.l0, if_neg (show ¬ ((a.length : Int) < (a.length : Int)) by omega)]
    exact ev_eq (ev_some _) (by simp [h])
  | succ d ih =>
    intro i hd hi
    have hlt : i < a.length := by omega
    have hltb : i < b.length := by omega
    have hw : wrap64 ((i : Int) + 1) = ((i + 1 : Nat) : Int) := by rw [w64 (by omega) (by omega)]; omega
    apply ev_succ
    simp only [batonref01_Same.l0, if_pos (show (i : Int) < (a.length : Int) by omega), if_pos (show (0 : Int) ≤ (i : Int) by omega), if_pos (show (i : Int) < (b.length : Int) by omega), rd_lt hlt, rd_lt hltb, hw]
    have key : (a.drop i = b.drop i) ↔ (a[i] = b[i] ∧ a.drop (i + 1) = b.drop (i + 1)) := by
      rw [List.drop_eq_getElem_cons hlt, List.drop_eq_getElem_cons hltb]
      exact List.cons_eq_cons
    by_cases e : a[i] = b[i]
    · simp only [if_pos e]
      refine ev_eq (ih (i + 1) (by omega) (by omega)) ?_
      simp only [key, e, true_and]
    · simp only [if_neg e]
      refine ev_eq (ev_some _) ?_
      simp only [key, e, false_and, decide_false]
theorem Same_ev (a b : List Int) (hl : a.length ≤ 9000000000000000000) : Ev (fun k => batonref01_Same.f k a b) (decide (a = b)) := by
  unfold batonref01_Same.f
  by_cases h : a.length = b.length
  · simp only [if_pos (show (a.length : Int) = (b.length : Int) by omega)]
    exact ev_eq (Same_l0 a b h hl a.length 0 (by omega) (by omega)) (by simp)
  · simp only [if_neg (show ¬ ((a.length : Int) = (b.length : Int)) by omega)]
    exact ev_eq (ev_some _) (by simp; intro e; exact h (by rw [e]))

/-! ### numbers out of bytes -/
def stepN (n b : Int) : Int := n * 256 % 18446744073709551616 + b
def num (xs : List Int) : Int := xs.foldl stepN 0
theorem stepN_range {n b : Int} (hn : 0 ≤ n) (hb : 0 ≤ b ∧ b ≤ 255) : 0 ≤ stepN n b ∧ stepN n b ≤ 18446744073709551615 := by unfold stepN; omega

/-! ### word.Put, word.Get -/
/-- The lowest s bytes of n, the highest first. -/
def be : Nat → Int → List Int
  | 0, _ => []
  | s + 1, n => (n / 2 ^ (8 * s) % 256) :: be s n
theorem be_length (s : Nat) (n : Int) : (be s n).length = s := by induction s with
  | zero => rfl
  | succ s ih => simp [be, ih]
theorem be_bytes (s : Nat) (n : Int) : Bytes (be s n) := by
  induction s with
  | zero => intro x hx; cases hx
  | succ s ih =>
    intro x hx
    simp only [be, List.mem_cons] at hx
    rcases hx with rfl | hx
    · omega
    · exact ih x hx
theorem set_rep (m : Nat) (t : List Int) (v : Int) : (List.replicate (m + 1) 0 ++ t).set m v = List.replicate m 0 ++ v :: t := by
  induction m with
  | zero => rfl
  | succ m ih => rw [List.replicate_succ, List.cons_append, List.set_cons_succ, ih, List.replicate_succ, List.cons_append]
theorem Put_l0 (n : Int) (size : Nat) (hs : size ≤ 8) (h0 : 0 ≤ n) (h1 : n ≤ 18446744073709551615) : ∀ (d i : Nat), size - i = d → i ≤ size →
    Ev (fun k => word_Put.l0 k n (size : Int) (List.replicate (size - i) 0 ++ be i n) (size : Int) (i : Int)) (be size n, 0) := by
  intro d
  induction d with
  | zero =>
    intro i hd hi
    obtain rfl : i = size := by omega
    apply ev_succ
    simp only [word_Put.l0, if_neg (show ¬ ((i : Int) < (i : Int)) by omega)]
    exact ev_eq (ev_some _) (by simp)
  | succ d ih =>
    intro i hd hi
    have hlt : i < size := by omega
    have hw : wrap64 ((i : Int) + 1) = ((i + 1 : Nat) : Int) := by rw [w64 (by omega) (by omega)]; omega
    have hq : IntKind.u64.wrap (wrap64 (8 * (i : Int))) = ((8 * i : Nat) : Int) := by rw [w64 (by omega) (by omega), u64 (by omega) (by omega)]; omega
    have hp : wrap64 (wrap64 ((size : Int) - 1) - (i : Int)) = ((size - 1 - i : Nat) : Int) := by rw [w64 (x := (size : Int) - 1) (by omega) (by omega), w64 (by omega) (by omega)]; omega
    have hlen : (List.replicate (size - i) (0 : Int) ++ be i n).length = size := by rw [List.length_append, List.length_replicate, be_length]; omega
    have hsh : shr .u64 n ((8 * i : Nat) : Int) % 256 = n / 2 ^ (8 * i) % 256 := by
      unfold shr
      rw [Int.toNat_natCast, Nat.min_eq_left (by show 8 * i ≤ 64; omega)]
    apply ev_succ
    simp only [word_Put.l0, if_pos (show (i : Int) < (size : Int) by omega), hq, hp, if_pos (show (0 : Int) ≤ ((8 * i : Nat) : Int) by omega), if_pos (show (0 : Int) ≤ ((size - 1 - i : Nat) : Int) by omega), hlen, if_pos (show ((size - 1 - i : Nat) : Int) < (size : Int) by omega), hw, Int.toNat_natCast, hsh]
    have e : (List.replicate (size - i) (0 : Int) ++ be i n).set (size - 1 - i) (n / 2 ^ (8 * i) % 256) = List.replicate (size - (i + 1)) 0 ++ be (i + 1) n := by
      obtain ⟨m, hm⟩ : ∃ m, size - i = m + 1 := ⟨size - i - 1, by omega⟩
      rw [hm, show size - 1 - i = m by omega, set_rep, show size - (i + 1) = m by omega]
      rfl
    rw [e]
    exact ih (i + 1) (by omega) (by omega)
def putSpec (n size : Int) : List Int × Int := if size < 1 ∨ size > 8 then ([], 1) else if size < 8 ∧ n / 2 ^ (8 * size).toNat ≠ 0 then ([], 22) else (be size.toNat n, 0)
theorem Put_ev (n size : Int) (h0 : 0 ≤ n) (h1 : n ≤ 18446744073709551615) : Ev (fun k => word_Put.f k n size) (putSpec n size) := by
  unfold word_Put.f putSpec
  by_cases c1 : size < 1
  · simp only [if_pos c1, if_pos (show size < 1 ∨ size > 8 from .inl c1)]
    apply ev_succ
    simp only [word_Put.j0, if_true]
    exact ev_some _
  · simp only [if_neg c1]
    apply ev_succ
    by_cases c2 : size > 8
    · simp only [word_Put.j0, decide_eq_true c2, if_true, if_pos (show size < 1 ∨ size > 8 from .inr c2)]
      exact ev_some _
    · rw [if_neg (show ¬ (size < 1 ∨ size > 8) by omega)]
      simp only [word_Put.j0, decide_eq_false c2, if_false, Bool.false_eq_true]
      obtain ⟨s, rfl⟩ := Int.eq_ofNat_of_zero_le (show 0 ≤ size by omega)
      have last : Ev (fun k => word_Put.j1 k n (s : Int) false) (be s n, 0) := by
        apply ev_succ
        have hle : s ≤ 281474976710656 := by omega
        simp only [word_Put.j1, if_false, Bool.false_eq_true, if_pos (show (0 : Int) ≤ (s : Int) by omega), Int.toNat_natCast, if_pos hle, Option.bind_some, List.length_replicate]
        have := Put_l0 n s (by omega) h0 h1 s 0 (by omega) (by omega)
        simpa [be] using this
      by_cases c3 : (s : Int) < 8
      · have hq : IntKind.u64.wrap (wrap64 (8 * (s : Int))) = ((8 * s : Nat) : Int) := by rw [w64 (by omega) (by omega), u64 (by omega) (by omega)]; omega
        have hsh : shr .u64 n ((8 * s : Nat) : Int) = n / 2 ^ (8 * s) := by
          unfold shr
          rw [Int.toNat_natCast, Nat.min_eq_left (by show 8 * s ≤ 64; omega)]
        have ht : (8 * (s : Int)).toNat = 8 * s := by omega
        simp only [if_pos c3, hq, if_pos (show (0 : Int) ≤ ((8 * s : Nat) : Int) by omega), hsh, ht, Int.toNat_natCast]
        by_cases c4 : n / 2 ^ (8 * s) = 0
        · rw [if_neg (show ¬ ((s : Int) < 8 ∧ n / 2 ^ (8 * s) ≠ 0) from fun h => h.2 c4)]
          simp only [c4, bne_self_eq_false]
          exact last
        · rw [if_pos ⟨c3, c4⟩]
          have : (n / 2 ^ (8 * s) != 0) = true := by simpa using c4
          simp only [this]
          apply ev_succ
          simp only [word_Put.j1, if_true]
          exact ev_some _
      · simp only [if_neg c3, Int.toNat_natCast]
        rw [if_neg (show ¬ ((s : Int) < 8 ∧ _) from fun h => c3 h.1)]
        exact last
theorem pow8 (s : Nat) : (2 : Nat) ^ (8 * s) = 256 ^ s := by rw [Nat.pow_mul]
theorem num_be_aux (n : Nat) : ∀ (s a : Nat), (a + 1) * 256 ^ s ≤ 18446744073709551616 → (be s (n : Int)).foldl stepN (a : Int) = ((a * 256 ^ s + n % 256 ^ s : Nat) : Int) := by
  intro s
  induction s with
  | zero => intro a h; simp [be, Nat.mod_one]
  | succ s ih =>
    intro a h
    have h256 : 1 ≤ 256 ^ s := by have := Nat.two_pow_pos (8 * s); rw [pow8] at this; exact this
    have hpow : 256 ^ (s + 1) = 256 * 256 ^ s := by rw [Nat.pow_succ, Nat.mul_comm]
    rw [hpow] at h
    have ha : (a + 1) * 256 ≤ 18446744073709551616 := by
      have h2 : (a + 1) * 256 * 256 ^ s ≤ 18446744073709551616 := by rw [Nat.mul_assoc]; exact h
      exact Nat.le_trans (Nat.le_mul_of_pos_right _ h256) h2
    simp only [be, List.foldl_cons]
    have e : stepN (a : Int) ((n : Int) / 2 ^ (8 * s) % 256) = ((a * 256 + n / 256 ^ s % 256 : Nat) : Int) := by
      unfold stepN
      rw [show (2 : Int) ^ (8 * s) = ((256 ^ s : Nat) : Int) by rw [← pow8]; simp]
      rw [← Int.natCast_ediv]
      omega
    rw [e, ih]
    · have hm : n % (256 * 256 ^ s) = n % 256 ^ s + 256 ^ s * (n / 256 ^ s % 256) := by rw [Nat.mul_comm 256]; exact Nat.mod_mul
      rw [hpow, hm, Nat.add_mul, Nat.mul_assoc, Nat.mul_comm (n / 256 ^ s % 256)]
      omega
    · have : (a * 256 + n / 256 ^ s % 256 + 1) ≤ (a + 1) * 256 := by omega
      have h2 := Nat.mul_le_mul_right (256 ^ s) this
      rw [Nat.mul_assoc] at h2
      exact Nat.le_trans h2 h
theorem num_be {n : Int} {s : Nat} (hs : s ≤ 8) (h0 : 0 ≤ n) (hn : n < 2 ^ (8 * s)) : num (be s n) = n := by
  obtain ⟨m, rfl⟩ := Int.eq_ofNat_of_zero_le h0
  have hm : m < 256 ^ s := by
    have : (2 : Int) ^ (8 * s) = ((256 ^ s : Nat) : Int) := by rw [← pow8]; simp
    rw [this] at hn
    omega
  have h8 : 256 ^ s ≤ 18446744073709551616 := by
    have := Nat.pow_le_pow_right (show 0 < 256 by decide) hs
    simpa using this
  have := num_be_aux m s 0 (by simpa using h8)
  unfold num
  rw [show (0 : Int) = ((0 : Nat) : Int) from rfl, this, Nat.mod_eq_of_lt hm]
  simp

/-! ### label -/
theorem be4 (n : Int) : be 4 n = [n / 16777216 % 256, n / 65536 % 256, n / 256 % 256, n % 256] := by
  simp [be]
theorem num4 {a b c d : Int} (ha : 0 ≤ a ∧ a ≤ 255) (hb : 0 ≤ b ∧ b ≤ 255) (hc : 0 ≤ c ∧ c ≤ 255) (hd : 0 ≤ d ∧ d ≤ 255) : num [a, b, c, d] = a * 16777216 + b * 65536 + c * 256 + d := by
  unfold num stepN
  simp only [List.foldl_cons, List.foldl_nil]
  omega
theorem be4_num {a b c d : Int} (ha : 0 ≤ a ∧ a ≤ 255) (hb : 0 ≤ b ∧ b ≤ 255) (hc : 0 ≤ c ∧ c ≤ 255) (hd : 0 ≤ d ∧ d ≤ 255) : be 4 (num [a, b, c, d]) = [a, b, c, d] := by
  rw [num4 ha hb hc hd, be4]
  simp only [List.cons.injEq, and_true]
  omega
theorem rdL1 (l : List (List Int)) (i : Nat) (h : i < l.length) : rd_L1 l (i : Int) = l[i] := by
  unfold rd_L1
  simp [List.getD_eq_getElem?_getD, h]
def encP (p : List Int) : List Int := be 4 (p.length : Int) ++ p
def enc (l : List (List Int)) : List Int := l.flatMap encP
theorem encP_len (p : List Int) : (encP p).length = 4 + p.length := by
  unfold encP
  rw [List.length_append, be_length]
theorem enc_snoc (l : List (List Int)) (i : Nat) (h : i < l.length) : enc (l.take (i + 1)) = enc (l.take i) ++ encP l[i] := by
  unfold enc
  rw [List.take_succ_eq_append_getElem h, List.flatMap_append]
  simp
theorem enc_len (l : List (List Int)) (hp : ∀ p ∈ l, p.length ≤ 1048576) : (enc l).length ≤ l.length * 1048580 := by
  induction l with
  | nil => simp [enc]
  | cons p l ih =>
    have h1 := hp p (List.mem_cons_self ..)
    have h2 := ih (fun q hq => hp q (List.mem_cons_of_mem _ hq))
    have e : enc (p :: l) = encP p ++ enc l := by simp [enc]
    rw [e, List.length_append, encP_len, List.length_cons]
    omega
theorem enc_len_take (l : List (List Int)) (hp : ∀ p ∈ l, p.length ≤ 1048576) (i : Nat) : (enc (l.take i)).length ≤ i * 1048580 := by
  have h := enc_len (l.take i) (fun p h => hp p (List.mem_of_mem_take h))
  have h2 : (l.take i).length ≤ i := by rw [List.length_take]; omega
  exact Nat.le_trans h (Nat.mul_le_mul_right _ h2)
theorem Join_l1 (l : List (List Int)) (c : Int) (hl : l.length ≤ 1000) (hp : ∀ p ∈ l, p.length ≤ 1048576) : ∀ (d i : Nat), l.length - i = d → i ≤ l.length → Ev (fun k => label_Join.l1 k (c :: enc (l.take i)) l (l.length : Int) (i : Int)) (c :: enc l, 0) := by
  intro d
  induction d with
  | zero =>
    intro i hd hi
    obtain rfl : i = l.length := by omega
    apply ev_succ
    simp only [label_Join.l1, if_neg (show ¬ ((l.length : Int) < (l.length : Int)) by omega), List.take_length]
    exact ev_some _
  | succ d ih =>
    intro i hd hi
    have hlt : i < l.length := by omega
    have hw : wrap64 ((i : Int) + 1) = ((i + 1 : Nat) : Int) := by rw [w64 (by omega) (by omega)]; omega
    have hpi : l[i].length ≤ 1048576 := hp _ (List.getElem_mem hlt)
    have hbl := be_length 4 (l[i].length : Int)
    have hel := enc_len_take l hp i
    apply ev_succ
    simp only [label_Join.l1, if_pos (show (i : Int) < (l.length : Int) by omega), if_pos (show (0 : Int) ≤ (i : Int) by omega), rdL1 l i hlt, hw, u64 (show (0 : Int) ≤ (l[i].length : Int) by omega) (by omega)]
    refine ev_bind (Put_ev (l[i].length : Int) 4 (by omega) (by omega)) ?_
    have hps : putSpec (l[i].length : Int) 4 = (be 4 (l[i].length : Int), 0) := by
      unfold putSpec
      rw [if_neg (by omega), if_neg]
      · rfl
      · rintro ⟨_, h⟩
        apply h
        rw [show (2 : Int) ^ ((8 * 4 : Int)).toNat = 4294967296 by simp]
        omega
    rw [hps]
    simp only [Option.bind_some, if_pos (show (c :: enc (l.take i)).length + (be 4 (l[i].length : Int)).length < 140737488355328 by rw [List.length_cons, hbl]; omega),
      if_pos (show ((c :: enc (l.take i)) ++ be 4 (l[i].length : Int)).length + l[i].length < 140737488355328 by rw [List.length_append, List.length_cons, hbl]; omega)]
    have e : (c :: enc (l.take i)) ++ be 4 (l[i].length : Int) ++ l[i] = c :: enc (l.take (i + 1)) := by rw [enc_snoc l i hlt]; simp [encP]
    rw [e]
    exact ih (i + 1) (by omega) (by omega)
theorem Join_l0 (l : List (List Int)) (hl : l.length ≤ 64) (hp : ∀ p ∈ l, p.length ≤ 1048576) : ∀ (d i : Nat), l.length - i = d → i ≤ l.length → Ev (fun k => label_Join.l0 k l l (l.length : Int) (i : Int)) ((l.length : Int) :: enc l, 0) := by
  intro d
  induction d with
  | zero =>
    intro i hd hi
    obtain rfl : i = l.length := by omega
    apply ev_succ
    simp only [label_Join.l0, if_neg (show ¬ ((l.length : Int) < (l.length : Int)) by omega), show (l.length : Int) % 256 = (l.length : Int) by omega]
    exact Join_l1 l _ (by omega) hp l.length 0 (by omega) (by omega)
  | succ d ih =>
    intro i hd hi
    have hlt : i < l.length := by omega
    have hw : wrap64 ((i : Int) + 1) = ((i + 1 : Nat) : Int) := by rw [w64 (by omega) (by omega)]; omega
    have hpi : l[i].length ≤ 1048576 := hp _ (List.getElem_mem hlt)
    apply ev_succ
    simp only [label_Join.l0, if_pos (show (i : Int) < (l.length : Int) by omega), if_pos (show (0 : Int) ≤ (i : Int) by omega), rdL1 l i hlt, hw, if_neg (show ¬ (l[i].length : Int) > 1048576 by omega)]
    exact ih (i + 1) (by omega) (by omega)
theorem Join_ev (l : List (List Int)) (hl : l.length ≤ 64) (hp : ∀ p ∈ l, p.length ≤ 1048576) : Ev (fun k => label_Join.f k l) ((l.length : Int) :: enc l, 0) := by
  simp only [label_Join.f, if_neg (show ¬ (l.length : Int) > 64 by omega)]
  exact Join_l0 l hl hp l.length 0 (by omega) (by omega)

/-! few, same -/
theorem few_l0 (l : List (List Int)) (hl : l.length ≤ 1000000) : ∀ (d i : Nat), l.length - i = d → i ≤ l.length → Ev (fun k => batonlaw04_few.l0 k l (i : Int)) (decide (∀ p ∈ l.drop i, p.length ≤ 100)) := by
  intro d
  induction d with
  | zero =>
    intro i hd hi
    obtain rfl : i = l.length := by omega
    apply ev_succ
    simp only [batonlaw04_few.l0, if_neg (show ¬ ((l.length : Int) < (l.length : Int)) by omega), List.drop_length]
    exact ev_eq (ev_some _) (by simp)
  | succ d ih =>
    intro i hd hi
    have hlt : i < l.length := by omega
    have hw : wrap64 ((i : Int) + 1) = ((i + 1 : Nat) : Int) := by rw [w64 (by omega) (by omega)]; omega
    apply ev_succ
    simp only [batonlaw04_few.l0, if_pos (show (i : Int) < (l.length : Int) by omega), if_pos (show (0 : Int) ≤ (i : Int) by omega), rdL1 l i hlt, hw]
    have hcons := List.drop_eq_getElem_cons hlt
    by_cases c : l[i].length ≤ 100
    · simp only [if_neg (show ¬ (l[i].length : Int) > 100 by omega)]
      refine ev_eq (ih (i + 1) (by omega) (by omega)) (decide_eq_decide.2 ⟨fun h p hp => ?_, fun h p hp => h p (by rw [hcons]; exact List.mem_cons_of_mem _ hp)⟩)
      rw [hcons] at hp
      rcases List.mem_cons.1 hp with rfl | hp
      · exact c
      · exact h p hp
    · simp only [if_pos (show (l[i].length : Int) > 100 by omega)]
      exact ev_eq (ev_some _) (decide_eq_false (fun h => c (h _ (by rw [hcons]; exact List.mem_cons_self ..)))).symm
theorem few_ev (l : List (List Int)) : Ev (fun k => batonlaw04_few.f k l) (decide (l.length ≤ 70 ∧ ∀ p ∈ l, p.length ≤ 100)) := by
  by_cases c : l.length ≤ 70
  · simp only [batonlaw04_few.f, if_neg (show ¬ (l.length : Int) > 70 by omega)]
    refine ev_eq (few_l0 l (by omega) l.length 0 (by omega) (by omega)) ?_
    simp [c]
  · simp only [batonlaw04_few.f, if_pos (show (l.length : Int) > 70 by omega)]
    exact ev_eq (ev_some _) (by simp [c])

theorem same_l0 (a b : List (List Int)) (h : a.length = b.length) (hl : a.length ≤ 1000000) (hp : ∀ p ∈ a, p.length ≤ 9000000000000000000) : ∀ (d i : Nat), a.length - i = d → i ≤ a.length → Ev (fun k => batonlaw04_same.l0 k a b (i : Int)) (decide (a.drop i = b.drop i)) := by
  intro d
  induction d with
  | zero =>
    intro i hd hi
    obtain rfl : i = a.length := by omega
    apply ev_succ
    simp only [batonlaw04_same.l0, if_neg (show ¬ ((a.length : Int) < (a.length : Int)) by omega), List.drop_length]
    exact ev_eq (ev_some _) (by rw [h, List.drop_length]; simp)
  | succ d ih =>
    intro i hd hi
    have hlt : i < a.length := by omega
    have hlt' : i < b.length := by omega
    have hw : wrap64 ((i : Int) + 1) = ((i + 1 : Nat) : Int) := by rw [w64 (by omega) (by omega)]; omega
    apply ev_succ
    simp only [batonlaw04_same.l0, if_pos (show (i : Int) < (a.length : Int) by omega), if_pos (show (0 : Int) ≤ (i : Int) by omega), if_pos (show (i : Int) < (b.length : Int) by omega), rdL1 a i hlt, rdL1 b i hlt', hw]
    refine ev_bind (Same_ev _ _ (hp _ (List.getElem_mem hlt))) ?_
    have h1 := List.drop_eq_getElem_cons hlt
    have h2 := List.drop_eq_getElem_cons hlt'
    by_cases c : a[i] = b[i]
    · simp only [decide_eq_true c, if_true]
      refine ev_eq (ih (i + 1) (by omega) (by omega)) (decide_eq_decide.2 ⟨fun h => by rw [h1, h2, c, h], fun h => ?_⟩)
      rw [h1, h2] at h
      injection h
    · simp only [decide_eq_false c, Bool.false_eq_true, if_false]
      refine ev_eq (ev_some _) (decide_eq_false (fun h => c ?_)).symm
      rw [h1, h2] at h
      injection h
theorem same_ev (a b : List (List Int)) (hl : a.length ≤ 1000000) (hp : ∀ p ∈ a, p.length ≤ 9000000000000000000) : Ev (fun k => batonlaw04_same.f k a b) (decide (a = b)) := by
  by_cases c : a.length = b.length
  · simp only [batonlaw04_same.f, if_pos (show (a.length : Int) = (b.length : Int) by omega)]
    refine ev_eq (same_l0 a b c hl hp a.length 0 (by omega) (by omega)) ?_
    simp
  · simp only [batonlaw04_same.f, if_neg (show ¬ (a.length : Int) = (b.length : Int) by omega)]
    exact ev_eq (ev_some _) (decide_eq_false (fun e => c (by rw [e]))).symm
theorem awake04 : Ev (fun k => batonlaw04_awake.f k) true := Ev.of (fun k => batonlaw04_awake.mono k) (k := 40) (by decide +kernel)

/-! ### two lists of parts with one text are one -/
theorem enc_inj : ∀ (a b : List (List Int)), a.length = b.length → (∀ p ∈ a, p.length ≤ 1048576) → (∀ p ∈ b, p.length ≤ 1048576) → enc a = enc b → a = b := by
  intro a
  induction a with
  | nil =>
    intro b hl _ _ _
    cases b with
    | nil => rfl
    | cons q b => simp at hl
  | cons p a ih =>
    intro b hl ha hb h
    cases b with
    | nil => simp at hl
    | cons q b =>
      have hp := ha p (by simp)
      have hq := hb q (by simp)
      unfold enc at h
      rw [List.flatMap_cons, List.flatMap_cons] at h
      unfold encP at h
      rw [List.append_assoc, List.append_assoc] at h
      obtain ⟨h1, h2⟩ := List.append_inj h (by rw [be_length, be_length])
      have e1 := num_be (n := (p.length : Int)) (s := 4) (by omega) (by omega) (by omega)
      have e2 := num_be (n := (q.length : Int)) (s := 4) (by omega) (by omega) (by omega)
      have e : p.length = q.length := by
        rw [h1, e2] at e1
        omega
      obtain ⟨h3, h4⟩ := List.append_inj h2 e
      rw [h3, ih b (by simpa using hl) (fun x hx => ha x (by simp [hx])) (fun x hx => hb x (by simp [hx])) h4]

end Go.Proofs.Ythcpfkkddfgamaa.LF04A
