/- The law CrcBursts, of plain lists: a text in which some of 32 bits in line are changed has another sum. No condition beside the sizes that the row itself gives. -/
import Derived.Test.YtaiiegbhbadciaaLF07
namespace Go.Proofs.Ytaiiegbhbadciaa.Pure
open Go.RowKit Go.Proofs.Ytaiiegbhbadciaa.Base Go.Proofs.YtaiiegbhbadciaaW.PrintWords Go.Proofs.YtaiiegbhbadciaaW.PrintMore Go.Proofs.Ytaiiegbhbadciaa.PF07
set_option linter.unusedVariables false
set_option linter.unusedSimpArgs false
open Go.Proofs.Ytaiiegbhbadciaa.LF07

/-! ### the register, bit by bit -/
def feed (c : Nat) (u : List Bool) : Nat := u.foldl (fun c b => stp (c ^^^ b.toNat)) c
def tb (l : List Int) (j : Nat) : Bool := (l.getD (j / 8) 0).toNat.testBit (j % 8)
theorem feed_append (c : Nat) (u v : List Bool) : feed c (u ++ v) = feed (feed c u) v := List.foldl_append ..
theorem feed_bits (w : Nat) : ∀ (n c s : Nat), feed c ((List.range n).map fun i => w.testBit (s + i)) = stps n (c ^^^ (w / 2 ^ s % 2 ^ n)) := by
  intro n
  induction n with
  | zero => intro c s; simp [feed, stps, Nat.mod_one]
  | succ n ih =>
    intro c s
    rw [List.range_succ_eq_map, List.map_cons, List.map_map]
    show feed (stp (c ^^^ (w.testBit (s + 0)).toNat)) _ = _
    have e : ((fun i => w.testBit (s + i)) ∘ Nat.succ) = fun i => w.testBit (s + 1 + i) := by
      funext i
      simp only [Function.comp, Nat.succ_eq_add_one]
      congr 1
      omega
    rw [e, ih]
    show _ = stps n (stp _)
    congr 1
    have hq : w / 2 ^ (s + 1) = w / 2 ^ s / 2 := by rw [Nat.pow_succ, Nat.div_div_eq_div_mul]
    have hb : (w.testBit (s + 0)).toNat = w / 2 ^ s % 2 := by
      rw [Nat.add_zero, Nat.testBit_eq_decide_div_mod_eq]
      have : w / 2 ^ s % 2 < 2 := Nat.mod_lt _ (by decide)
      by_cases h : w / 2 ^ s % 2 = 1
      · simp [h]
      · have h0 : w / 2 ^ s % 2 = 0 := by omega
        simp [h0]
    rw [hq, hb]
    generalize w / 2 ^ s = x
    have hm : x % 2 ^ (n + 1) = 2 ^ 1 * (x / 2 % 2 ^ n) + x % 2 := by
      rw [Nat.pow_succ, Nat.mul_comm, Nat.mod_mul]
      omega
    rw [hm, join_xor 1 _ _ (by omega), Nat.xor_comm (2 ^ 1 * _), ← Nat.xor_assoc, stp_xor (c ^^^ x % 2)]
    rw [show 2 ^ 1 * (x / 2 % 2 ^ n) = 2 * (x / 2 % 2 ^ n) by omega, stp_even]
theorem feed_zero (n : Nat) : ∀ c : Nat, feed c ((List.range n).map fun _ => false) = stps n c := by
  induction n with
  | zero => intro c; rfl
  | succ n ih =>
    intro c
    rw [List.range_succ_eq_map, List.map_cons, List.map_map]
    show feed (stp (c ^^^ (false).toNat)) _ = _
    rw [show ((fun _ => false) ∘ Nat.succ) = fun _ : Nat => false from rfl, ih]
    simp [stps]
theorem feed_xor (f g : Nat → Bool) (js : List Nat) : ∀ a b : Nat, feed (a ^^^ b) (js.map fun j => Bool.xor (f j) (g j)) = feed a (js.map f) ^^^ feed b (js.map g) := by
  induction js with
  | nil => intro a b; rfl
  | cons j js ih =>
    intro a b
    show feed (stp ((a ^^^ b) ^^^ (Bool.xor (f j) (g j)).toNat)) _ = feed (stp (a ^^^ (f j).toNat)) _ ^^^ feed (stp (b ^^^ (g j).toNat)) _
    rw [← ih, ← stp_xor]
    have h : (a ^^^ b) ^^^ (Bool.xor (f j) (g j)).toNat = (a ^^^ (f j).toNat) ^^^ (b ^^^ (g j).toNat) := by
      have hx : (Bool.xor (f j) (g j)).toNat = (f j).toNat ^^^ (g j).toNat := by cases f j <;> cases g j <;> rfl
      rw [hx, Nat.xor_assoc, ← Nat.xor_assoc b, Nat.xor_comm b, Nat.xor_assoc (f j).toNat, ← Nat.xor_assoc a]
    rw [h]
theorem crcN_feed (l : List Int) (hb : Bytes l) : ∀ c : Nat, crcN c l = feed c ((List.range (8 * l.length)).map (tb l)) := by
  induction l with
  | nil => intro c; rfl
  | cons x l ih =>
    intro c
    have hx := hb x (by simp)
    obtain ⟨n, rfl⟩ := Int.eq_ofNat_of_zero_le hx.1
    have hn : n < 256 := by omega
    rw [List.length_cons, show 8 * (l.length + 1) = 8 + 8 * l.length by omega, List.range_add, List.map_append, List.map_map, feed_append]
    have e1 : (List.range 8).map (tb ((n : Int) :: l)) = (List.range 8).map fun i => n.testBit (0 + i) := by
      refine List.map_congr_left fun i hi => ?_
      have hi8 : i < 8 := List.mem_range.1 hi
      unfold tb
      rw [show i / 8 = 0 by omega, show i % 8 = i by omega, Nat.zero_add]
      simp
    have e2 : (tb ((n : Int) :: l) ∘ fun x => 8 + x) = tb l := by
      funext j
      unfold tb
      simp only [Function.comp]
      rw [show (8 + j) / 8 = j / 8 + 1 by omega, show (8 + j) % 8 = j % 8 by omega, List.getD_cons_succ]
    rw [e1, e2, feed_bits, ← ih (fun y hy => hb y (by simp [hy]))]
    show crcN (stps 8 (c ^^^ ((n : Int)).toNat)) l = _
    rw [Int.toNat_natCast, Nat.pow_zero, Nat.div_one, Nat.mod_eq_of_lt hn]
/-- What a burst does to the register of noughts. -/
theorem burst (N p w : Nat) (hw : w < 4294967296) (d : Nat → Bool) (hd : ∀ j, j < N → d j = (decide (p ≤ j) && decide (j < p + 32) && w.testBit (j - p))) :
    (feed 0 ((List.range N).map d) = 0) ↔ ∀ i, i < 32 → p + i < N → w.testBit i = false := by
  rcases Nat.lt_or_ge p N with hp | hp
  · obtain ⟨m, rest, hN, hm, hr⟩ : ∃ m rest, N = p + (m + rest) ∧ m ≤ 32 ∧ (rest = 0 ∨ m = 32) := by
      rcases Nat.lt_or_ge (N - p) 32 with h | h
      · exact ⟨N - p, 0, by omega, by omega, .inl rfl⟩
      · exact ⟨32, N - p - 32, by omega, by omega, .inr rfl⟩
    subst hN
    have e0 : (List.range p).map d = (List.range p).map fun _ => false := by
      refine List.map_congr_left fun j hj => ?_
      have := List.mem_range.1 hj
      rw [hd j (by omega)]
      simp
      omega
    have e1 : (List.range m).map (d ∘ fun x => p + x) = (List.range m).map fun i => w.testBit (0 + i) := by
      refine List.map_congr_left fun j hj => ?_
      have := List.mem_range.1 hj
      simp only [Function.comp]
      rw [hd _ (by omega), decide_eq_true (show p ≤ p + j by omega), decide_eq_true (show p + j < p + 32 by omega), show p + j - p = 0 + j by omega]
      rfl
    have e2 : (List.range rest).map ((d ∘ fun x => p + x) ∘ fun x => m + x) = (List.range rest).map fun _ => false := by
      refine List.map_congr_left fun j hj => ?_
      have := List.mem_range.1 hj
      simp only [Function.comp]
      rw [hd _ (by omega), decide_eq_false (show ¬ (p + (m + j) < p + 32) by omega)]
      simp
    rw [List.range_add, List.map_append, List.map_map, List.range_add, List.map_append, List.map_map, feed_append, feed_append, e0, e1, e2, feed_zero, feed_zero, feed_bits, stps_of_zero, Nat.zero_xor, Nat.pow_zero, Nat.div_one]
    have hlt : w % 2 ^ m < 4294967296 := Nat.lt_of_le_of_lt (Nat.mod_le _ _) hw
    constructor
    · intro h i hi hpi
      have hz := stps_zero m hlt (stps_zero rest (stps_lt m hlt) h)
      have ht := Nat.testBit_mod_two_pow w m i
      rw [hz, Nat.zero_testBit, decide_eq_true (show i < m by omega)] at ht
      simpa using ht.symm
    · intro h
      have hz : w % 2 ^ m = 0 := by
        apply Nat.eq_of_testBit_eq
        intro i
        rw [Nat.zero_testBit, Nat.testBit_mod_two_pow]
        by_cases hi : i < m
        · rw [h i (by omega) (by omega)]
          simp
        · simp [hi]
      rw [hz, stps_of_zero, stps_of_zero]
  · have e0 : (List.range N).map d = (List.range N).map fun _ => false := by
      refine List.map_congr_left fun j hj => ?_
      have := List.mem_range.1 hj
      rw [hd j (by omega)]
      simp
      omega
    rw [e0, feed_zero, stps_of_zero]
    exact ⟨fun _ i _ h => absurd h (by omega), fun _ => rfl⟩
/-! ### the law -/
/-- What holds when i of the 32 bits have been looked at. -/
structure Burst (b x : List Int) (p w i : Nat) (changed : Bool) : Prop where
  len : x.length = b.length
  bytes : Bytes x
  bit : ∀ j, j < 8 * b.length → tb x j = Bool.xor (tb b j) (decide (p ≤ j) && decide (j < p + i) && w.testBit (j - p))
  some_ : changed = true ↔ ∃ s, s < i ∧ p + s < 8 * b.length ∧ w.testBit s = true
theorem tb_set (x : List Int) (hx : Bytes x) (q r : Nat) (hq : q < x.length) (hr : r < 8) (j : Nat) :
    tb (x.set q (Go.bits .xor .u8 x[q] (((2 ^ r : Nat) : Nat) : Int))) j = Bool.xor (tb x j) (decide (j = 8 * q + r)) := by
  have hb := hx _ (List.getElem_mem hq)
  have hr2 : 2 ^ r < 256 := by
    have := Nat.pow_lt_pow_right (show 1 < 2 by decide) hr
    simpa using this
  have hr3 : ((2 ^ r : Nat) : Int) < 256 := Int.ofNat_lt.2 hr2
  unfold tb
  by_cases h : j / 8 = q
  · subst h
    have e1 : (x.set (j / 8) (Go.bits .xor .u8 x[j / 8] ((2 ^ r : Nat) : Int))).getD (j / 8) 0 = Go.bits .xor .u8 x[j / 8] ((2 ^ r : Nat) : Int) := by
      rw [List.getD_eq_getElem?_getD, List.getElem?_set_self hq]
      rfl
    have e2 : x.getD (j / 8) 0 = x[j / 8] := by
      rw [List.getD_eq_getElem?_getD, List.getElem?_eq_getElem hq]
      rfl
    rw [e1, e2, u8_xor _ _ hb.1 (by omega) (Int.natCast_nonneg _) hr3, Int.toNat_natCast, Int.toNat_natCast, Nat.testBit_xor, Nat.testBit_two_pow]
    congr 1
    exact decide_eq_decide.2 (by omega)
  · have e1 : ∀ v : Int, (x.set q v).getD (j / 8) 0 = x.getD (j / 8) 0 := fun v => by
      rw [List.getD_eq_getElem?_getD, List.getElem?_set_ne (fun e => h e.symm), List.getD_eq_getElem?_getD]
    rw [e1, decide_eq_false (show ¬ (j = 8 * q + r) by omega), Bool.xor_false]
theorem bytes_set (x : List Int) (hx : Bytes x) (q r : Nat) (hq : q < x.length) (hr : r < 8) : Bytes (x.set q (Go.bits .xor .u8 x[q] ((2 ^ r : Nat) : Int))) := by
  intro y hy
  have hb := hx _ (List.getElem_mem hq)
  have hr2 : 2 ^ r < 256 := by
    have := Nat.pow_lt_pow_right (show 1 < 2 by decide) hr
    simpa using this
  have hr3 : ((2 ^ r : Nat) : Int) < 256 := Int.ofNat_lt.2 hr2
  rcases List.mem_or_eq_of_mem_set hy with h | h
  · exact hx y h
  · rw [h, u8_xor _ _ hb.1 (by omega) (Int.natCast_nonneg _) hr3, Int.toNat_natCast]
    have := Nat.xor_lt_two_pow (n := 8) (show x[q].toNat < 2 ^ 8 by omega) (show 2 ^ r < 2 ^ 8 by omega)
    omega
theorem Burst.skip {b x : List Int} {p w i : Nat} {c : Bool} (h : Burst b x p w i c) (hs : w.testBit i = false ∨ 8 * b.length ≤ p + i) : Burst b x p w (i + 1) c := by
  refine ⟨h.len, h.bytes, fun j hj => ?_, ?_⟩
  · rw [h.bit j hj]
    congr 1
    by_cases e : j = p + i
    · rcases hs with hs | hs
      · rw [e, show p + i - p = i by omega, hs]
        simp
      · omega
    · rw [show decide (j < p + (i + 1)) = decide (j < p + i) from decide_eq_decide.2 (by omega)]
  · rw [h.some_]
    constructor
    · rintro ⟨s, h1, h2⟩
      exact ⟨s, by omega, h2⟩
    · rintro ⟨s, h1, h2, h3⟩
      by_cases e : s = i
      · subst e
        rcases hs with hs | hs
        · rw [hs] at h3
          cases h3
        · omega
      · exact ⟨s, by omega, h2, h3⟩
theorem Burst.flip {b x : List Int} {p w i : Nat} {c : Bool} (h : Burst b x p w i c) (hs : w.testBit i = true) (hq : (p + i) / 8 < x.length) :
    Burst b (x.set ((p + i) / 8) (Go.bits .xor .u8 x[(p + i) / 8] ((2 ^ ((p + i) % 8) : Nat) : Int))) p w (i + 1) true := by
  have hl := h.len
  refine ⟨by rw [List.length_set]; exact hl, bytes_set x h.bytes _ _ hq (by omega), fun j hj => ?_, ?_⟩
  · rw [tb_set x h.bytes _ _ hq (by omega), h.bit j hj, Bool.xor_assoc]
    congr 1
    by_cases e : j = p + i
    · rw [e, show p + i - p = i by omega, hs, decide_eq_true (show p + i = 8 * ((p + i) / 8) + (p + i) % 8 by omega), decide_eq_false (show ¬ (p + i < p + i) by omega), decide_eq_true (show p + i < p + (i + 1) by omega), decide_eq_true (show p ≤ p + i by omega)]
      rfl
    · rw [decide_eq_false (show ¬ (j = 8 * ((p + i) / 8) + (p + i) % 8) by omega), Bool.xor_false, show decide (j < p + (i + 1)) = decide (j < p + i) from decide_eq_decide.2 (by omega)]
  · exact ⟨fun _ => ⟨i, by omega, by omega, hs⟩, fun _ => rfl⟩
theorem crc_differs {b x : List Int} {p w : Nat} {c : Bool} (hb : Bytes b) (hw : w < 4294967296) (h : Burst b x p w 32 c) : (sumS 0 x = sumS 0 b) ↔ c = false := by
  have hN : 8 * x.length = 8 * b.length := by rw [h.len]
  have hx := crcN_feed x h.bytes 4294967295
  have hbb := crcN_feed b hb 4294967295
  have hd : ∀ j, j < 8 * b.length → Bool.xor (tb x j) (tb b j) = (decide (p ≤ j) && decide (j < p + 32) && w.testBit (j - p)) := fun j hj => by
    rw [h.bit j hj, Bool.xor_comm (tb b j), Bool.xor_assoc, Bool.xor_self, Bool.xor_false]
  have hf := feed_xor (tb x) (tb b) (List.range (8 * b.length)) 4294967295 4294967295
  rw [Nat.xor_self] at hf
  have hbu := burst (8 * b.length) p w hw (fun j => Bool.xor (tb x j) (tb b j)) hd
  rw [hf] at hbu
  rw [hN] at hx
  rw [← hx, ← hbb] at hbu
  have e1 : sumS 0 x = sumS 0 b ↔ crcN 4294967295 x ^^^ crcN 4294967295 b = 0 := by
    unfold sumS
    rw [show ((4294967295 : Int) - 0).toNat = 4294967295 from rfl]
    constructor
    · intro e
      have : crcN 4294967295 x = crcN 4294967295 b := by omega
      rw [this, Nat.xor_self]
    · intro e
      rw [xor_eq_zero e]
  rw [e1, hbu]
  constructor
  · intro hall
    cases hc : c with
    | false => rfl
    | true =>
      obtain ⟨s, h1, h2, h3⟩ := h.some_.1 hc
      rw [hall s h1 h2] at h3
      cases h3
  · intro hc i hi hpi
    cases ht : w.testBit i with
    | false => rfl
    | true =>
      have := h.some_.2 ⟨i, hi, hpi, ht⟩
      rw [hc] at this
      cases this
theorem CrcBursts_l0 (b : List Int) (hb : Bytes b) (hlb : b.length ≤ 200) (a : Int) (p w : Nat) (ha : Int.tmod (wrap64 a) 1600 = (p : Int)) (hp : p < 1600) (hw : w < 4294967296) : ∀ (d i : Nat) (x : List Int) (c : Bool), 32 - i = d → i ≤ 32 → Burst b x p w i c →
    Ev (fun k => batonlaw07_CrcBursts.l0 k b a ((w / 2 ^ i : Nat) : Int) x c (i : Int)) true := by
  intro d
  induction d with
  | zero =>
    intro i x c hd hi h
    obtain rfl : i = 32 := by omega
    apply ev_succ
    have hl := h.len
    simp only [batonlaw07_CrcBursts.l0, if_neg (show ¬ (((32 : Nat) : Int) < 32) by decide)]
    refine ev_bind (Sum_ev x h.bytes (by omega)) ?_
    refine ev_bind (Sum_ev b hb (by omega)) ?_
    refine ev_eq (ev_some _) ?_
    have hd := crc_differs hb hw h
    cases c with
    | false =>
      rw [hd.2 rfl]
      simp
    | true =>
      have : ¬ (sumS 0 x = sumS 0 b) := fun e => by cases hd.1 e
      simp [this]
  | succ d ih =>
    intro i x c hd hi h
    have hl := h.len
    have hw1 : wrap64 ((i : Int) + 1) = ((i + 1 : Nat) : Int) := by rw [w64 (by omega) (by omega)]; omega
    have e1 : wrap64 (Int.tmod (wrap64 a) 1600 + (i : Int)) = ((p + i : Nat) : Int) := by rw [ha, w64 (by omega) (by omega)]; omega
    have e2 : wrap64 (Int.tdiv ((p + i : Nat) : Int) 8) = (((p + i) / 8 : Nat) : Int) := by rw [Int.tdiv_eq_ediv_of_nonneg (Int.natCast_nonneg _), w64 (by omega) (by omega)]; omega
    have e3 : IntKind.u64.wrap (Int.tmod ((p + i : Nat) : Int) 8) = (((p + i) % 8 : Nat) : Int) := by rw [Int.tmod_eq_emod_of_nonneg (Int.natCast_nonneg _), u64 (by omega) (by omega)]; omega
    have hwi : w / 2 ^ i ≤ w := Nat.div_le_self _ _
    have e4 : Int.tdiv ((w / 2 ^ i : Nat) : Int) 2 % 4294967296 = ((w / 2 ^ (i + 1) : Nat) : Int) := by
      rw [Nat.pow_succ, ← Nat.div_div_eq_div_mul, Int.tdiv_eq_ediv_of_nonneg (Int.natCast_nonneg _)]
      generalize w / 2 ^ i = y at hwi ⊢
      omega
    have e5 : Int.tmod ((w / 2 ^ i : Nat) : Int) 2 = ((w / 2 ^ i % 2 : Nat) : Int) := by rw [Int.tmod_eq_emod_of_nonneg (Int.natCast_nonneg _)]; omega
    have e6 : shl .u8 1 (((p + i) % 8 : Nat) : Int) = ((2 ^ ((p + i) % 8) : Nat) : Int) := by
      unfold shl
      rw [Int.toNat_natCast, Nat.min_eq_left (by show (p + i) % 8 ≤ 8; omega), IntKind.wrap_u8, Int.one_mul]
      have h8 : (p + i) % 8 < 8 := by omega
      generalize (p + i) % 8 = r at h8 ⊢
      have : 2 ^ r < 2 ^ 8 := Nat.pow_lt_pow_right (by decide) h8
      have hc : (2 : Int) ^ r = ((2 ^ r : Nat) : Int) := by rw [Int.natCast_pow]; rfl
      rw [hc]
      generalize 2 ^ r = g at this ⊢
      omega
    have ht : w.testBit i = decide (w / 2 ^ i % 2 = 1) := Nat.testBit_eq_decide_div_mod_eq ..
    apply ev_succ
    simp only [batonlaw07_CrcBursts.l0, if_pos (show (i : Int) < 32 by omega), hw1, e1, e2, e3, e4, e5]
    by_cases h1 : w / 2 ^ i % 2 = 1
    · simp only [if_pos (show ((w / 2 ^ i % 2 : Nat) : Int) = 1 by omega)]
      by_cases h2 : (p + i) / 8 < x.length
      · simp only [if_pos (show (((p + i) / 8 : Nat) : Int) < (x.length : Int) by omega), if_pos (show (0 : Int) ≤ (((p + i) / 8 : Nat) : Int) by omega), if_pos (show (0 : Int) ≤ (((p + i) % 8 : Nat) : Int) by omega), rd_lt h2, e6, Int.toNat_natCast]
        exact ih (i + 1) _ _ (by omega) (by omega) (h.flip (by rw [ht]; exact decide_eq_true h1) h2)
      · simp only [if_neg (show ¬ ((((p + i) / 8 : Nat) : Int) < (x.length : Int)) by omega)]
        exact ih (i + 1) _ _ (by omega) (by omega) (h.skip (.inr (by omega)))
    · simp only [if_neg (show ¬ (((w / 2 ^ i % 2 : Nat) : Int) = 1) by omega)]
      exact ih (i + 1) _ _ (by omega) (by omega) (h.skip (.inl (by rw [ht]; exact decide_eq_false h1)))
theorem CrcBursts : batonlaw07_CrcBursts.Pure := by
  intro b a w hlm _ hb ha hw
  have bb := bytes_of hb
  have ba := bounds_u16 ha
  have bw := bounds_u32 hw
  refine Ev.rounds ?_
  unfold batonlaw07_CrcBursts.f
  refine ev_bind1 awake07 ?_
  simp only [if_true]
  by_cases c1 : (b.length : Int) > 200
  · simp only [if_pos c1]
    apply ev_succ
    simp only [batonlaw07_CrcBursts.j0, if_true]
    exact ev_some _
  · simp only [if_neg c1]
    apply ev_succ
    by_cases c2 : w = 0
    · simp only [batonlaw07_CrcBursts.j0, c2, beq_self_eq_true, if_true]
      exact ev_some _
    · have hne : (w == 0) = false := by simpa using c2
      obtain ⟨n, rfl⟩ := Int.eq_ofNat_of_zero_le bw.1
      have hlen : ([] : List Int).length + b.length < 140737488355328 := by simp only [List.length_nil]; omega
      simp only [batonlaw07_CrcBursts.j0, hne, Bool.false_eq_true, if_false, Option.bind_some, if_pos hlen, List.nil_append]
      obtain ⟨p, hp⟩ : ∃ p : Nat, Int.tmod (wrap64 a) 1600 = (p : Int) := by
        rw [w64 (by omega) (by omega), Int.tmod_eq_emod_of_nonneg ba.1]
        exact Int.eq_ofNat_of_zero_le (by omega)
      have hp2 : p < 1600 := by
        rw [w64 (by omega) (by omega), Int.tmod_eq_emod_of_nonneg ba.1] at hp
        omega
      have := CrcBursts_l0 b bb (by omega) a p n hp hp2 (by omega) 32 0 b false (by omega) (by omega) ⟨rfl, bb, fun j _ => ?_, ?_⟩
      · simpa using this
      · rw [show decide (j < p + 0) = decide (j < p) by rw [Nat.add_zero]]
        by_cases h : p ≤ j
        · rw [decide_eq_false (show ¬ j < p by omega)]
          simp
        · rw [decide_eq_false h]
          simp
      · simp

end Go.Proofs.Ytaiiegbhbadciaa.Pure
