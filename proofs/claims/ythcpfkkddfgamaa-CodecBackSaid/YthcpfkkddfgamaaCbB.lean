/- What an item's bytes are: the law's function 'bytes'. No condition. -/
import Derived.Test.YthcpfkkddfgamaaCbA
namespace Go.Proofs.Ythcpfkkddfgamaa.Cod
open Go.AnyFacts Go.Proofs.Ythcpfkkddfgamaa.Sha Go.RowKit Go.Proofs.YthcpfkkddfgamaaW.Hand Go.Proofs.YthcpfkkddfgamaaW.PrintWords Go.Proofs.YthcpfkkddfgamaaW.PrintLast Go.Proofs.YthcpfkkddfgamaaW.PrintMore Go.Proofs.Ythcpfkkddfgamaa.PF06C Go.Proofs.Ythcpfkkddfgamaa.Base Go.Proofs.Ythcpfkkddfgamaa.LF06C
attribute [local go_sem] max2_int min2_int max_two min_two max_three min_three max_four min_four
set_option linter.unusedVariables false
set_option linter.unusedSimpArgs false

def zig (n : Int) : Int := if n < 0 then -(2 * n) - 1 else 2 * n
theorem zig_f (n : Int) (h0 : -36028797018963968 ≤ n) (h1 : n ≤ 36028797018963967) : batonref06_Signed.f n = some (zig n) := by
  unfold batonref06_Signed.f zig
  by_cases h : n < 0
  · rw [if_pos h, if_pos h, w64 (x := -n) (by omega) (by omega), w64 (x := 2 * -n) (by omega) (by omega), w64 (by omega) (by omega)]
    congr 1
    omega
  · rw [if_neg h, if_neg h, w64 (by omega) (by omega)]
theorem zig_range (n : Int) (h0 : -36028797018963968 ≤ n) (h1 : n ≤ 36028797018963967) : 0 ≤ zig n ∧ zig n < 72057594037927936 := by
  unfold zig
  split <;> omega
theorem decS_zig (n : Int) : decS (zig n) = n := by
  unfold decS zig
  by_cases h : n < 0
  · rw [if_pos h, if_pos (by omega)]
    omega
  · rw [if_neg h, if_neg (by omega)]
    omega
theorem RefNum_l0 : ∀ (f : Nat) (n : Int) (l : List Int), 0 ≤ n → n < 2 ^ (7 * (f + 1)) → f ≤ 7 → l.length + f ≤ 1000000000 → Ev (fun k => batonref06_Number.l0 k n l) (l ++ numF f n) := by
  intro f
  induction f with
  | zero =>
    intro n l h0 h1 hf hl
    have h1' : n < 128 := by simpa using h1
    apply ev_succ
    simp only [batonref06_Number.l0, if_neg (show ¬ n > 127 by omega)]
    rw [show n % 256 = n by omega, if_pos (by omega)]
    exact ev_some _
  | succ f ih =>
    intro n l h0 h1 hf hl
    have hle : (2 : Int) ^ (7 * (f + 1 + 1)) ≤ 2 ^ 56 := pow2_le (by omega)
    have hp : (2 : Int) ^ (7 * (f + 1 + 1)) = 2 ^ (7 * (f + 1)) * 128 := by rw [show 7 * (f + 1 + 1) = 7 * (f + 1) + 7 by omega, Int.pow_add]; rfl
    apply ev_succ
    by_cases c : n > 127
    · have e1 : Int.tmod n 128 = n % 128 := Int.tmod_eq_emod_of_nonneg h0
      have e2 : Int.tdiv n 128 = n / 128 := Int.tdiv_eq_ediv_of_nonneg h0
      simp only [batonref06_Number.l0, if_pos c, if_pos (show l.length < 140737488355328 by omega), e1, e2]
      rw [w64 (x := n / 128) (by omega) (by omega), w64 (x := n % 128 + 128) (by omega) (by omega), show (n % 128 + 128) % 256 = n % 128 + 128 by omega]
      have := ih (n / 128) (l ++ [n % 128 + 128]) (by omega) (by omega) (by omega) (by simp; omega)
      refine ev_eq this ?_
      rw [numF, if_neg (by omega)]
      simp
    · simp only [batonref06_Number.l0, if_neg c, if_pos (show l.length < 140737488355328 by omega)]
      rw [show n % 256 = n by omega]
      refine ev_eq (ev_some _) ?_
      rw [numF, if_pos (by omega)]
theorem RefNum_ok (n : Int) (h0 : 0 ≤ n) (h1 : n < 72057594037927936) : Ev (fun k => batonref06_Number.f k n) (numF 7 n) := by
  have := RefNum_l0 7 n [] h0 h1 (by omega) (by simp)
  exact this
theorem C_of_cells {k : IntKind} {w : World} {ad : Addr} {xs : List Int} (h : ∀ (j : Nat) (v : Value), (xs.map (Value.int k))[j]? = some v → w.cell? (ad.add j) = some v) (hl : xs.length ≤ maxLen) : Kd.C (Kd.int k) w (some ad) xs.length xs := by
  refine ⟨rfl, hl, fun hp => ⟨_, rfl, fun j p hj => ⟨[.int k p], rfl, rfl, fun i u hu => ?_⟩⟩⟩
  cases i with
  | zero =>
    have e : u = .int k p := by simpa using hu.symm
    subst e
    rw [show (Kd.int k).sz = 1 from rfl, Nat.mul_one, Nat.add_zero]
    refine h j _ ?_
    simp [hj]
  | succ i => simp at hu
/-- The bytes of an item, and the error that it makes. -/
def itL (x : It) : List Int := if x.1 = 0 then [x.2.1 % 256] else if x.1 = 1 then (if x.2.1 < 0 ∨ x.2.1 > 72057594037927935 then [] else numF 7 x.2.1) else if x.1 = 2 then (if x.2.1 < -36028797018963968 ∨ x.2.1 > 36028797018963967 then [] else numF 7 (zig x.2.1)) else if x.1 = 3 then numF 7 (x.2.2.1.length : Int) ++ x.2.2.1 else if x.1 = 4 then x.2.2.2 else if Int.tmod x.2.1 2 = 0 then [0] else [1]
def itE (x : It) : Int := if (x.1 = 1 ∧ (x.2.1 < 0 ∨ x.2.1 > 72057594037927935)) ∨ (x.1 = 2 ∧ (x.2.1 < -36028797018963968 ∨ x.2.1 > 36028797018963967)) then 1 else 0
def BytesPost (w : World) (x : It) : Ending → World → Prop := fun en w' => ∃ v, en = .returned (.tuple #[v, .int .i64 (itE x)]) ∧ Kd.R (Kd.int .u8) 5 w' w.heap.size (fun _ => True) v (itL x) ∧ Below w.heap.size w w'

theorem below_of_none {W w1 : World} (h : W.grownBy w1 none) : Below W.heap.size W w1 := ⟨h.os, h.tape, h.output, h.size, fun k hk => h.block k hk (by simp)⟩
theorem cell_below {W w1 : World} {a : Addr} {v : Value} (hb : Below W.heap.size W w1) (h : W.cell? a = some v) : w1.cell? a = some v := (hb.cell (World.block_lt_of_cell? W _ h)).trans h
set_option maxHeartbeats 8000000 in
set_option maxRecDepth 100000 in
theorem bytes0 {w : World} (n : Int) (B K : List Int) (A : Option Addr) (c : Nat) (hC : Kd.C (Kd.int .u8) w A B.length B) (hc : B.length ≤ c) (hK : K.length = 32) (hB : B.length ≤ 1000) : Calls Try.prog 64 #[.agg (itC (0, n, B, K) A c).toArray] w (BytesPost w (0, n, B, K)) := by
  have HC := Aside0.mk hC
  have HCC := Aside0.mk hc
  have HK := Aside0.mk hK
  have HBB := Aside0.mk hB
  clear hC hc hK hB
  go_enter Try.func64, Try.ntmps64
  go_wp2_with (first
    | ((with_reducible refine gate_dst (N := 1) rfl ?_); refine L_box rfl 100 (.tmp 0) rfl (.agg (itC (0, n, B, K) A c).toArray) rfl ?_; intro g wb hb hg hs hl; have hx0 : wb.cell? ⟨g, 0, none⟩ = some (.int .i64 0) := (box_cells hb).1; have hx1 : wb.cell? ⟨g, 1, none⟩ = some (.int .i64 n) := (box_cells hb).2.1; have hx2 : wb.cell? ⟨g, 2, none⟩ = some (.slice A B.length c) := (box_cells hb).2.2.1; have HX3 := Aside0.mk (show ∀ (j : Nat) (v : Value), (K.map (Value.int .u8))[j]? = some v → wb.cell? ((⟨g, 3, none⟩ : Addr).add j) = some v from (box_cells hb).2.2.2); have HB := Aside0.mk hl; have HG := Aside0.mk hg; clear hb hg hs hl)
    | ((with_reducible refine gate_dst (N := 11) rfl ?_); refine Kd.R_lit (Kd.int .u8) w.heap.size 5 rfl (N := 11) rfl (xs := ([n % 256] : List Int)) (inner := [.int .u8 (n % 256)]) (ok := fun _ => True) (okp := fun _ => True) ?hr (Reps.one (show Kd.M (Kd.int .u8) _ _ _ (n % 256) [.int .u8 (n % 256)] from rfl) (Reps.none _ _)) (fun _ hk => hk) trivial HB.out (below_size HB.out) (by simp) ?_; (case hr => first | (go_simp; done) | (go_simp; rfl)); intro vl wl hRl hbl hgl hnl; have HRL := Aside0.mk hRl; have HBL := Aside0.mk hbl; have HGL := Aside0.mk hgl; have HNL := Aside0.mk hnl; clear hRl hbl hgl hnl))
  go_ret2
  exact ⟨vl, rfl, HRL.out, HBL.out⟩
set_option maxHeartbeats 8000000 in
set_option maxRecDepth 100000 in
theorem bytes1 {w : World} (n : Int) (B K : List Int) (A : Option Addr) (c : Nat) (hC : Kd.C (Kd.int .u8) w A B.length B) (hc : B.length ≤ c) (hK : K.length = 32) (hB : B.length ≤ 1000) : Calls Try.prog 64 #[.agg (itC (1, n, B, K) A c).toArray] w (BytesPost w (1, n, B, K)) := by
  by_cases h : n < 0 ∨ n > 72057594037927935
  · have hl : itL (1, n, B, K) = [] := by simp [itL, h]
    have he : itE (1, n, B, K) = 1 := by simp [itE, h]
    unfold BytesPost
    rw [hl, he]
    rcases (show decide (n < 0) = true ∨ decide (n < 0) = false ∧ decide (n > 72057594037927935) = true by by_cases h0 : n < 0; exact .inl (decide_eq_true h0); exact .inr ⟨decide_eq_false h0, decide_eq_true (by omega)⟩) with hd | ⟨hd, hd2⟩
    · clear h hl he
      have HC := Aside0.mk hC
      have HCC := Aside0.mk hc
      have HK := Aside0.mk hK
      have HBB := Aside0.mk hB
      clear hC hc hK hB
      go_enter Try.func64, Try.ntmps64
      go_wp2_with (first
        | ((with_reducible refine gate_dst (N := 1) rfl ?_); refine L_box rfl 100 (.tmp 0) rfl (.agg (itC (1, n, B, K) A c).toArray) rfl ?_; intro g wb hb hg hs hl; have hx0 : wb.cell? ⟨g, 0, none⟩ = some (.int .i64 1) := (box_cells hb).1; have hx1 : wb.cell? ⟨g, 1, none⟩ = some (.int .i64 n) := (box_cells hb).2.1; have hx2 : wb.cell? ⟨g, 2, none⟩ = some (.slice A B.length c) := (box_cells hb).2.2.1; have HX3 := Aside0.mk (show ∀ (j : Nat) (v : Value), (K.map (Value.int .u8))[j]? = some v → wb.cell? ((⟨g, 3, none⟩ : Addr).add j) = some v from (box_cells hb).2.2.2); have HB := Aside0.mk hl; have HG := Aside0.mk hg; clear hb hg hs hl))
      go_ret2
      exact ⟨_, rfl, Kd.R_nil _ _ _ _ _, HB.out⟩
    · clear h hl he
      have HC := Aside0.mk hC
      have HCC := Aside0.mk hc
      have HK := Aside0.mk hK
      have HBB := Aside0.mk hB
      clear hC hc hK hB
      go_enter Try.func64, Try.ntmps64
      go_wp2_with (first
        | ((with_reducible refine gate_dst (N := 1) rfl ?_); refine L_box rfl 100 (.tmp 0) rfl (.agg (itC (1, n, B, K) A c).toArray) rfl ?_; intro g wb hb hg hs hl; have hx0 : wb.cell? ⟨g, 0, none⟩ = some (.int .i64 1) := (box_cells hb).1; have hx1 : wb.cell? ⟨g, 1, none⟩ = some (.int .i64 n) := (box_cells hb).2.1; have hx2 : wb.cell? ⟨g, 2, none⟩ = some (.slice A B.length c) := (box_cells hb).2.2.1; have HX3 := Aside0.mk (show ∀ (j : Nat) (v : Value), (K.map (Value.int .u8))[j]? = some v → wb.cell? ((⟨g, 3, none⟩ : Addr).add j) = some v from (box_cells hb).2.2.2); have HB := Aside0.mk hl; have HG := Aside0.mk hg; clear hb hg hs hl))
      go_ret2
      exact ⟨_, rfl, Kd.R_nil _ _ _ _ _, HB.out⟩
  · have hl : itL (1, n, B, K) = numF 7 n := by simp [itL, h]
    have he : itE (1, n, B, K) = 0 := by simp [itE, h]
    unfold BytesPost
    rw [hl, he]
    have hd : decide (n < 0) = false := decide_eq_false (by omega)
    have hd2 : decide (n > 72057594037927935) = false := decide_eq_false (by omega)
    obtain ⟨kn, hkn⟩ := (RefNum_ok n (by omega) (by omega)).rounds
    have HN := Aside0.mk hkn
    clear h hl he hkn
    have HC := Aside0.mk hC
    have HCC := Aside0.mk hc
    have HK := Aside0.mk hK
    have HBB := Aside0.mk hB
    clear hC hc hK hB
    go_enter Try.func64, Try.ntmps64
    go_wp2_with (first
      | ((with_reducible refine gate_dst (N := 1) rfl ?_); refine L_box rfl 100 (.tmp 0) rfl (.agg (itC (1, n, B, K) A c).toArray) rfl ?_; intro g wb hb hg hs hl; have hx0 : wb.cell? ⟨g, 0, none⟩ = some (.int .i64 1) := (box_cells hb).1; have hx1 : wb.cell? ⟨g, 1, none⟩ = some (.int .i64 n) := (box_cells hb).2.1; have hx2 : wb.cell? ⟨g, 2, none⟩ = some (.slice A B.length c) := (box_cells hb).2.2.1; have HX3 := Aside0.mk (show ∀ (j : Nat) (v : Value), (K.map (Value.int .u8))[j]? = some v → wb.cell? ((⟨g, 3, none⟩ : Addr).add j) = some v from (box_cells hb).2.2.2); have HB := Aside0.mk hl; have HG := Aside0.mk hg; clear hb hg hs hl)
      | (go_at_call 91; refine (batonref06_Number.calls kn n _ _ HN.out).mono ?_; rintro en wn ⟨vn, rfl, hR, hb⟩; have HRN := Aside0.mk (Kd.R_lower hR (below_size HB.out)); have HBN := Aside0.mk (below_step HB.out hb); clear hR hb))
    go_ret2
    exact ⟨vn, rfl, HRN.out, HBN.out⟩
set_option maxHeartbeats 8000000 in
set_option maxRecDepth 100000 in
theorem bytes2 {w : World} (n : Int) (B K : List Int) (A : Option Addr) (c : Nat) (hC : Kd.C (Kd.int .u8) w A B.length B) (hc : B.length ≤ c) (hK : K.length = 32) (hB : B.length ≤ 1000) : Calls Try.prog 64 #[.agg (itC (2, n, B, K) A c).toArray] w (BytesPost w (2, n, B, K)) := by
  by_cases h : n < -36028797018963968 ∨ n > 36028797018963967
  · have hl : itL (2, n, B, K) = [] := by simp [itL, h]
    have he : itE (2, n, B, K) = 1 := by simp [itE, h]
    unfold BytesPost
    rw [hl, he]
    rcases (show decide (n < -36028797018963968) = true ∨ decide (n < -36028797018963968) = false ∧ decide (n > 36028797018963967) = true by by_cases h0 : n < -36028797018963968; exact .inl (decide_eq_true h0); exact .inr ⟨decide_eq_false h0, decide_eq_true (by omega)⟩) with hd | ⟨hd, hd2⟩
    · clear h hl he
      have HC := Aside0.mk hC
      have HCC := Aside0.mk hc
      have HK := Aside0.mk hK
      have HBB := Aside0.mk hB
      clear hC hc hK hB
      go_enter Try.func64, Try.ntmps64
      go_wp2_with (first
        | ((with_reducible refine gate_dst (N := 1) rfl ?_); refine L_box rfl 100 (.tmp 0) rfl (.agg (itC (2, n, B, K) A c).toArray) rfl ?_; intro g wb hb hg hs hl; have hx0 : wb.cell? ⟨g, 0, none⟩ = some (.int .i64 2) := (box_cells hb).1; have hx1 : wb.cell? ⟨g, 1, none⟩ = some (.int .i64 n) := (box_cells hb).2.1; have hx2 : wb.cell? ⟨g, 2, none⟩ = some (.slice A B.length c) := (box_cells hb).2.2.1; have HX3 := Aside0.mk (show ∀ (j : Nat) (v : Value), (K.map (Value.int .u8))[j]? = some v → wb.cell? ((⟨g, 3, none⟩ : Addr).add j) = some v from (box_cells hb).2.2.2); have HB := Aside0.mk hl; have HG := Aside0.mk hg; clear hb hg hs hl))
      go_ret2
      exact ⟨_, rfl, Kd.R_nil _ _ _ _ _, HB.out⟩
    · clear h hl he
      have HC := Aside0.mk hC
      have HCC := Aside0.mk hc
      have HK := Aside0.mk hK
      have HBB := Aside0.mk hB
      clear hC hc hK hB
      go_enter Try.func64, Try.ntmps64
      go_wp2_with (first
        | ((with_reducible refine gate_dst (N := 1) rfl ?_); refine L_box rfl 100 (.tmp 0) rfl (.agg (itC (2, n, B, K) A c).toArray) rfl ?_; intro g wb hb hg hs hl; have hx0 : wb.cell? ⟨g, 0, none⟩ = some (.int .i64 2) := (box_cells hb).1; have hx1 : wb.cell? ⟨g, 1, none⟩ = some (.int .i64 n) := (box_cells hb).2.1; have hx2 : wb.cell? ⟨g, 2, none⟩ = some (.slice A B.length c) := (box_cells hb).2.2.1; have HX3 := Aside0.mk (show ∀ (j : Nat) (v : Value), (K.map (Value.int .u8))[j]? = some v → wb.cell? ((⟨g, 3, none⟩ : Addr).add j) = some v from (box_cells hb).2.2.2); have HB := Aside0.mk hl; have HG := Aside0.mk hg; clear hb hg hs hl))
      go_ret2
      exact ⟨_, rfl, Kd.R_nil _ _ _ _ _, HB.out⟩
  · have hl : itL (2, n, B, K) = numF 7 (zig n) := by simp [itL, h]
    have he : itE (2, n, B, K) = 0 := by simp [itE, h]
    unfold BytesPost
    rw [hl, he]
    have hd : decide (n < -36028797018963968) = false := decide_eq_false (by omega)
    have hd2 : decide (n > 36028797018963967) = false := decide_eq_false (by omega)
    have hzr := zig_range n (by omega) (by omega)
    obtain ⟨kn, hkn⟩ := (RefNum_ok (zig n) hzr.1 hzr.2).rounds
    have HN := Aside0.mk hkn
    have HZ := Aside0.mk (zig_f n (by omega) (by omega))
    clear h hl he hkn hzr
    have HC := Aside0.mk hC
    have HCC := Aside0.mk hc
    have HK := Aside0.mk hK
    have HBB := Aside0.mk hB
    clear hC hc hK hB
    go_enter Try.func64, Try.ntmps64
    go_wp2_with (first
      | ((with_reducible refine gate_dst (N := 1) rfl ?_); refine L_box rfl 100 (.tmp 0) rfl (.agg (itC (2, n, B, K) A c).toArray) rfl ?_; intro g wb hb hg hs hl; have hx0 : wb.cell? ⟨g, 0, none⟩ = some (.int .i64 2) := (box_cells hb).1; have hx1 : wb.cell? ⟨g, 1, none⟩ = some (.int .i64 n) := (box_cells hb).2.1; have hx2 : wb.cell? ⟨g, 2, none⟩ = some (.slice A B.length c) := (box_cells hb).2.2.1; have HX3 := Aside0.mk (show ∀ (j : Nat) (v : Value), (K.map (Value.int .u8))[j]? = some v → wb.cell? ((⟨g, 3, none⟩ : Addr).add j) = some v from (box_cells hb).2.2.2); have HB := Aside0.mk hl; have HG := Aside0.mk hg; clear hb hg hs hl)
      | (go_at_call 85; refine (batonref06_Signed.calls n _ _ HZ.out).mono ?_; rintro en wz ⟨rfl, hd⟩; have HBZ := Aside0.mk (below_step HB.out (below_of_drawn hd)); clear hd)
      | (go_at_call 91; refine (batonref06_Number.calls kn (zig n) _ _ HN.out).mono ?_; rintro en wn ⟨vn, rfl, hR, hb⟩; have HRN := Aside0.mk (Kd.R_lower hR (below_size HBZ.out)); have HBN := Aside0.mk (below_step HBZ.out hb); clear hR hb))
    go_ret2
    exact ⟨vn, rfl, HRN.out, HBN.out⟩
def Cb64_13.T : Bool × List (List Nat × List Nat) := (true, [([], []), ([0], [0]), ([1], [1]), ([2], [2]), ([], []), ([4], [4]), ([3, 5, 3], [3, 5]), ([6, 6, 0, 1, 2, 3, 4, 5, 6], [6]), ([7, 0, 1, 2, 3, 4, 5, 6, 7], [])])
def Cb64_13.B : List Nat := [0, 1, 3, 7, 0, 16, 63, 127, 255]
theorem Cb64_13.tab : rtab .any (opsOf Try.f64 13) = Cb64_13.T := by kernel_rfl
theorem Cb64_13.bits : waitsOk Cb64_13.T.2 Cb64_13.B = true := by kernel_rfl
set_option maxHeartbeats 8000000 in
set_option maxRecDepth 100000 in
theorem bytes3 {w : World} (n : Int) (B K : List Int) (A : Option Addr) (c : Nat) (hC : Kd.C (Kd.int .u8) w A B.length B) (hc : B.length ≤ c) (hK : K.length = 32) (hB : B.length ≤ 1000) : Calls Try.prog 64 #[.agg (itC (3, n, B, K) A c).toArray] w (BytesPost w (3, n, B, K)) := by
  obtain ⟨kn, hkn⟩ := (RefNum_ok (B.length : Int) (by omega) (by omega)).rounds
  have HN := Aside0.mk hkn
  clear hkn
  have HC := Aside0.mk hC
  have HCC := Aside0.mk hc
  have HK := Aside0.mk hK
  have HBB := Aside0.mk hB
  clear hC hc hK hB
  go_enter Try.func64, Try.ntmps64
  go_wp2_with (first
    | ((with_reducible refine gate_dst (N := 1) rfl ?_); refine L_box rfl 100 (.tmp 0) rfl (.agg (itC (3, n, B, K) A c).toArray) rfl ?_; intro g wb hb hg hs hl; have hx0 : wb.cell? ⟨g, 0, none⟩ = some (.int .i64 3) := (box_cells hb).1; have hx1 : wb.cell? ⟨g, 1, none⟩ = some (.int .i64 n) := (box_cells hb).2.1; have hx2 : wb.cell? ⟨g, 2, none⟩ = some (.slice A B.length c) := (box_cells hb).2.2.1; have HX3 := Aside0.mk (show ∀ (j : Nat) (v : Value), (K.map (Value.int .u8))[j]? = some v → wb.cell? ((⟨g, 3, none⟩ : Addr).add j) = some v from (box_cells hb).2.2.2); have HB := Aside0.mk hl; have HG := Aside0.mk hg; clear hb hg hs hl))
  have HX2 := Aside0.mk hx2
  refine start_ (n := 9) (S := fun w' => w'.cell? ⟨g, 2, none⟩ = some (.slice A B.length c)) (ds := []) #[false, false, false, false, false, false, false, false, false] (by kernel_rfl) rfl rfl (HX2.out) (fun hHeld => ?_); refine with_tabW Cb64_13.tab Cb64_13.bits (fun HT_ HW_ => ?_)
  refine pure_ (i := 0) (N := some 41) (v := ?_) (a' := ?_) #[true, false, false, false, false, false, false, false, false] rfl rfl (any_of HT_.out (by kernel_rfl)) (fun _ _ _ h => h) (Or.inl ⟨by rfl, ?_⟩) ?_ ?_
  rotate_left
  · intro w'
    go_simp
    with_reducible rfl
  rotate_left
  · simp only [Act.put, List.setIfInBounds_toArray, List.set_cons_zero, List.set_cons_succ, i64_w, i32_w]
    rfl
  refine take_ (i := 1) (N := some 42) (v := ?_) (a' := ?_) #[true, true, false, false, false, false, false, false, false] rfl rfl (take_ofW HT_.out HW_.out (by kernel_rfl)) (fun _ _ _ h => h) (Or.inl ⟨by rfl, ?_⟩) hHeld ?_ ?_
  rotate_left
  · intro w' s0
    go_simp
    with_reducible rfl
  rotate_left
  · simp only [Act.put, List.setIfInBounds_toArray, List.set_cons_zero, List.set_cons_succ, i64_w, i32_w]
    rfl
  refine pure_ (i := 2) (N := some 43) (v := ?_) (a' := ?_) #[true, true, true, false, false, false, false, false, false] rfl rfl (any_of HT_.out (by kernel_rfl)) (fun _ _ _ h => h) (Or.inl ⟨by rfl, ?_⟩) ?_ ?_
  rotate_left
  · intro w'
    go_simp
    with_reducible rfl
  rotate_left
  · simp only [Act.put, List.setIfInBounds_toArray, List.set_cons_zero, List.set_cons_succ, i64_w, i32_w]
    rfl
  refine pure_ (i := 4) (N := some 45) (v := ?_) (a' := ?_) #[true, true, true, false, true, false, false, false, false] rfl rfl (any_of HT_.out (by kernel_rfl)) (fun _ _ _ h => h) (Or.inl ⟨by rfl, ?_⟩) ?_ ?_
  rotate_left
  · intro w'
    go_simp
    with_reducible rfl
  rotate_left
  · simp only [Act.put, List.setIfInBounds_toArray, List.set_cons_zero, List.set_cons_succ, i64_w, i32_w]
    rfl
  refine take_ (i := 5) (N := some 46) (v := ?_) (a' := ?_) #[true, true, true, false, true, true, false, false, false] rfl rfl (take_ofW HT_.out HW_.out (by kernel_rfl)) (fun _ _ _ h => h) (Or.inl ⟨by rfl, ?_⟩) hHeld ?_ ?_
  rotate_left
  · intro w' s0
    go_simp
    with_reducible rfl
  rotate_left
  · simp only [Act.put, List.setIfInBounds_toArray, List.set_cons_zero, List.set_cons_succ, i64_w, i32_w]
    rfl
  refine one_ (i := 3) (N := some 44) #[true, true, true, true, true, true, false, false, false] rfl rfl (one_of HT_.out (by kernel_rfl)) (by decide) (fun Kq hKq => ?_)
  refine goes_ Try.func91 (by kernel_rfl) rfl #[.int .i64 (B.length : Int)] (by rfl) rfl rfl (by (try simp only [List.map_toArray, List.map_cons, List.map_nil]); first | done | rfl) ?_
  refine (batonref06_Number.calls kn (B.length : Int) _ wb.drew HN.out).mono ?_
  rintro e w6 ⟨v6, rfl, hR6, hb6⟩
  have HR6 := Aside0.mk hR6
  have HB6 := Aside0.mk hb6
  have HX6 := Aside0.mk (cell_below hb6 HX2.out)
  clear hR6 hb6
  refine ⟨_, rfl, ?_⟩
  refine hKq.out _ _ HX6.out (fun hHeld => ?_)
  clear hKq Kq
  refine one_ (i := 6) (N := some 47) #[true, true, true, true, true, true, true, false, false] rfl rfl (one_of HT_.out (by kernel_rfl)) (by decide) (fun Kq hKq => ?_)
  refine Kd.R_append_rows_step (Kd.int .u8) (w0 := wb.drew) wb.drew.heap.size (by rfl) (.tmp 44) (.tmp 46) 28 5 (.int .u8 0) 1 rfl Try.underlying28 info5 rfl (by decide) (by omega) v6 (numF 7 (B.length : Int)) B A B.length c (fun _ => True) (fun _ => False) rfl rfl HR6.out (Kd.C_below (Kd.C_below HC.out (below_drew HB.out)) HB6.out) (fun _ _ h => h) (fun _ h => h.elim) (fun _ _ => trivial) HB6.out HB6.out.size (by have := HBB.out; have := numF_len 7 (B.length : Int); omega) ?_
  intro v7 w7 hR7 hb7 hg7 hat7
  show Kq (Act.put _ (some 47) v7) w7
  have HR7 := Aside0.mk hR7
  have HB7 := Aside0.mk hb7
  have HX7 := Aside0.mk (cell_below (W := wb.drew) hb7 HX2.out)
  clear hR7 hb7 hg7 hat7
  refine hKq.out _ _ HX7.out (fun hHeld => ?_)
  clear hKq Kq
  refine pure_ (i := 7) (N := some 2) (v := ?_) (a' := ?_) #[true, true, true, true, true, true, true, true, false] rfl rfl (any_of HT_.out (by kernel_rfl)) (fun _ _ _ h => h) (Or.inl ⟨by rfl, ?_⟩) ?_ ?_
  rotate_left
  · intro w'
    go_simp
    with_reducible rfl
  rotate_left
  · simp only [Act.put, List.setIfInBounds_toArray, List.set_cons_zero, List.set_cons_succ, i64_w, i32_w]
    rfl
  refine pure_ (i := 8) (N := some 3) (v := ?_) (a' := ?_) #[true, true, true, true, true, true, true, true, true] rfl rfl (any_of HT_.out (by kernel_rfl)) (fun _ _ _ h => h) (Or.inl ⟨by rfl, ?_⟩) ?_ ?_
  rotate_left
  · intro w'
    go_simp
    with_reducible rfl
  rotate_left
  · simp only [Act.put, List.setIfInBounds_toArray, List.set_cons_zero, List.set_cons_succ, i64_w, i32_w]
    rfl
  refine done_ (done_of HT_.out (by kernel_rfl)) ?_
  go_wp2
  go_ret2
  exact ⟨v7, rfl, Kd.R_lower HR7.out (below_size (below_drew HB.out)), below_step (below_drew HB.out) HB7.out⟩
set_option maxHeartbeats 8000000 in
set_option maxRecDepth 100000 in
theorem bytes4 {w : World} (n : Int) (B K : List Int) (A : Option Addr) (c : Nat) (hC : Kd.C (Kd.int .u8) w A B.length B) (hc : B.length ≤ c) (hK : K.length = 32) (hB : B.length ≤ 1000) : Calls Try.prog 64 #[.agg (itC (4, n, B, K) A c).toArray] w (BytesPost w (4, n, B, K)) := by
  have HC := Aside0.mk hC
  have HCC := Aside0.mk hc
  have HK := Aside0.mk hK
  have HBB := Aside0.mk hB
  clear hC hc hK hB
  go_enter Try.func64, Try.ntmps64
  go_wp2_with (first
    | ((with_reducible refine gate_dst (N := 1) rfl ?_); refine L_box rfl 100 (.tmp 0) rfl (.agg (itC (4, n, B, K) A c).toArray) rfl ?_; intro g wb hb hg hs hl; have hx0 : wb.cell? ⟨g, 0, none⟩ = some (.int .i64 4) := (box_cells hb).1; have hx1 : wb.cell? ⟨g, 1, none⟩ = some (.int .i64 n) := (box_cells hb).2.1; have hx2 : wb.cell? ⟨g, 2, none⟩ = some (.slice A B.length c) := (box_cells hb).2.2.1; have HX3 := Aside0.mk (show ∀ (j : Nat) (v : Value), (K.map (Value.int .u8))[j]? = some v → wb.cell? ((⟨g, 3, none⟩ : Addr).add j) = some v from (box_cells hb).2.2.2); have HB := Aside0.mk hl; have HG := Aside0.mk hg; clear hb hg hs hl)
    | ((with_reducible refine gate_dst (N := 50) rfl ?_); refine Kd.R_lit (Kd.int .u8) w.heap.size 5 rfl (N := 50) rfl (xs := ([] : List Int)) (inner := []) (ok := fun _ => True) (okp := fun _ => True) ?hr (Reps.none _ _) (fun _ hk => hk) trivial HB.out (below_size HB.out) (by simp) ?_; (case hr => first | (go_simp; done) | (go_simp; rfl)); intro vl wl hRl hbl hgl hnl; have HRL := Aside0.mk hRl; have HBL := Aside0.mk hbl; have HGL := Aside0.mk hgl; have HNL := Aside0.mk hnl; clear hRl hbl hgl hnl)
    | ((with_reducible refine gate_builtin (b := .append) (xs := #[.tmp 50, .tmp 52]) rfl ?_); at_builtin; refine Kd.R_append_rows (Kd.int .u8) (w0 := w) w.heap.size rfl (.tmp 50) (.tmp 52) 28 5 (.int .u8 0) 1 rfl Try.underlying28 info5 rfl (by decide) (by omega) vl [] K (some ⟨g, 3, none⟩) 32 32 (fun _ => True) (fun _ => False) rfl rfl HRL.out (by have h := C_of_cells (k := .u8) (fun j v h => cell_below (below_of_none HGL.out) (HX3.out j v h)) (by rw [HK.out]; decide); rw [HK.out] at h; exact h) (fun _ _ h => h) (fun _ h => h.elim) (fun _ _ => trivial) HBL.out (below_size HBL.out) (by simp) ?_; intro v5 w5 ho5 hb5 hg5 hat5; have HO5 := Aside0.mk ho5; have HB5 := Aside0.mk hb5; clear ho5 hb5 hg5 hat5))
  go_ret2
  exact ⟨v5, rfl, HO5.out, HB5.out⟩
set_option maxHeartbeats 8000000 in
set_option maxRecDepth 100000 in
theorem bytes5 {w : World} (n : Int) (B K : List Int) (A : Option Addr) (c : Nat) (hC : Kd.C (Kd.int .u8) w A B.length B) (hc : B.length ≤ c) (hK : K.length = 32) (hB : B.length ≤ 1000) (k : Int) (h0 : (k == 0) = false) (h1 : (k == 1) = false) (h2 : (k == 2) = false) (h3 : (k == 3) = false) (h4 : (k == 4) = false) : Calls Try.prog 64 #[.agg (itC (k, n, B, K) A c).toArray] w (BytesPost w (k, n, B, K)) := by
  have n0 : ¬ k = 0 := beq_eq_false_iff_ne.mp h0
  have n1 : ¬ k = 1 := beq_eq_false_iff_ne.mp h1
  have n2 : ¬ k = 2 := beq_eq_false_iff_ne.mp h2
  have n3 : ¬ k = 3 := beq_eq_false_iff_ne.mp h3
  have n4 : ¬ k = 4 := beq_eq_false_iff_ne.mp h4
  have he : itE (k, n, B, K) = 0 := by simp [itE, n1, n2]
  unfold BytesPost
  by_cases h : Int.tmod n 2 = 0
  · have hl : itL (k, n, B, K) = [0] := by simp [itL, n0, n1, n2, n3, n4, h]
    rw [hl, he]
    have hd : (Int.tmod n 2 != 0) = false := bne_eq_false_iff_eq.mpr h
    clear n0 n1 n2 n3 n4 h hl he
    have HC := Aside0.mk hC
    have HCC := Aside0.mk hc
    have HK := Aside0.mk hK
    have HBB := Aside0.mk hB
    clear hC hc hK hB
    go_enter Try.func64, Try.ntmps64
    go_wp2_with (first
      | ((with_reducible refine gate_dst (N := 1) rfl ?_); refine L_box rfl 100 (.tmp 0) rfl (.agg (itC (k, n, B, K) A c).toArray) rfl ?_; intro g wb hb hg hs hl; have hx0 : wb.cell? ⟨g, 0, none⟩ = some (.int .i64 k) := (box_cells hb).1; have hx1 : wb.cell? ⟨g, 1, none⟩ = some (.int .i64 n) := (box_cells hb).2.1; have hx2 : wb.cell? ⟨g, 2, none⟩ = some (.slice A B.length c) := (box_cells hb).2.2.1; have HX3 := Aside0.mk (show ∀ (j : Nat) (v : Value), (K.map (Value.int .u8))[j]? = some v → wb.cell? ((⟨g, 3, none⟩ : Addr).add j) = some v from (box_cells hb).2.2.2); have HB := Aside0.mk hl; have HG := Aside0.mk hg; clear hb hg hs hl)
      | ((with_reducible refine gate_dst (N := 59) rfl ?_); refine Kd.R_lit (Kd.int .u8) w.heap.size 5 rfl (N := 59) rfl (xs := ([0] : List Int)) (inner := [.int .u8 (0)]) (ok := fun _ => True) (okp := fun _ => True) ?hr (Reps.one (show Kd.M (Kd.int .u8) _ _ _ (0) [.int .u8 (0)] from rfl) (Reps.none _ _)) (fun _ hk => hk) trivial HB.out (below_size HB.out) (by simp) ?_; (case hr => first | (go_simp; done) | (go_simp; rfl)); intro vl wl hRl hbl hgl hnl; have HRL := Aside0.mk hRl; have HBL := Aside0.mk hbl; have HGL := Aside0.mk hgl; have HNL := Aside0.mk hnl; clear hRl hbl hgl hnl))
    go_ret2
    exact ⟨vl, rfl, HRL.out, HBL.out⟩
  · have hl : itL (k, n, B, K) = [1] := by simp [itL, n0, n1, n2, n3, n4, h]
    rw [hl, he]
    have hd : (Int.tmod n 2 != 0) = true := bne_iff_ne.mpr h
    clear n0 n1 n2 n3 n4 h hl he
    have HC := Aside0.mk hC
    have HCC := Aside0.mk hc
    have HK := Aside0.mk hK
    have HBB := Aside0.mk hB
    clear hC hc hK hB
    go_enter Try.func64, Try.ntmps64
    go_wp2_with (first
      | ((with_reducible refine gate_dst (N := 1) rfl ?_); refine L_box rfl 100 (.tmp 0) rfl (.agg (itC (k, n, B, K) A c).toArray) rfl ?_; intro g wb hb hg hs hl; have hx0 : wb.cell? ⟨g, 0, none⟩ = some (.int .i64 k) := (box_cells hb).1; have hx1 : wb.cell? ⟨g, 1, none⟩ = some (.int .i64 n) := (box_cells hb).2.1; have hx2 : wb.cell? ⟨g, 2, none⟩ = some (.slice A B.length c) := (box_cells hb).2.2.1; have HX3 := Aside0.mk (show ∀ (j : Nat) (v : Value), (K.map (Value.int .u8))[j]? = some v → wb.cell? ((⟨g, 3, none⟩ : Addr).add j) = some v from (box_cells hb).2.2.2); have HB := Aside0.mk hl; have HG := Aside0.mk hg; clear hb hg hs hl)
      | ((with_reducible refine gate_dst (N := 58) rfl ?_); refine Kd.R_lit (Kd.int .u8) w.heap.size 5 rfl (N := 58) rfl (xs := ([1] : List Int)) (inner := [.int .u8 (1)]) (ok := fun _ => True) (okp := fun _ => True) ?hr (Reps.one (show Kd.M (Kd.int .u8) _ _ _ (1) [.int .u8 (1)] from rfl) (Reps.none _ _)) (fun _ hk => hk) trivial HB.out (below_size HB.out) (by simp) ?_; (case hr => first | (go_simp; done) | (go_simp; rfl)); intro vl wl hRl hbl hgl hnl; have HRL := Aside0.mk hRl; have HBL := Aside0.mk hbl; have HGL := Aside0.mk hgl; have HNL := Aside0.mk hnl; clear hRl hbl hgl hnl))
    go_ret2
    exact ⟨vl, rfl, HRL.out, HBL.out⟩
theorem bytes_calls {w : World} (x : It) (A : Option Addr) (c : Nat) (hC : Kd.C (Kd.int .u8) w A x.2.2.1.length x.2.2.1) (hc : x.2.2.1.length ≤ c) (hK : x.2.2.2.length = 32) (hB : x.2.2.1.length ≤ 1000) : Calls Try.prog 64 #[.agg (itC x A c).toArray] w (BytesPost w x) := by
  obtain ⟨k, n, B, K⟩ := x
  by_cases h0 : k = 0
  · subst h0
    exact bytes0 n B K A c hC hc hK hB
  by_cases h1 : k = 1
  · subst h1
    exact bytes1 n B K A c hC hc hK hB
  by_cases h2 : k = 2
  · subst h2
    exact bytes2 n B K A c hC hc hK hB
  by_cases h3 : k = 3
  · subst h3
    exact bytes3 n B K A c hC hc hK hB
  by_cases h4 : k = 4
  · subst h4
    exact bytes4 n B K A c hC hc hK hB
  exact bytes5 n B K A c hC hc hK hB k (beq_eq_false_iff_ne.mpr h0) (beq_eq_false_iff_ne.mpr h1) (beq_eq_false_iff_ne.mpr h2) (beq_eq_false_iff_ne.mpr h3) (beq_eq_false_iff_ne.mpr h4)

end Go.Proofs.Ythcpfkkddfgamaa.Cod
