/- A Writer, by its methods, and what an item writes. No condition. -/
import Derived.Test.YthcpfkkddfgamaaCbB
namespace Go.Proofs.Ythcpfkkddfgamaa.Cod
open Go.AnyFacts Go.Proofs.Ythcpfkkddfgamaa.Sha Go.RowKit Go.Proofs.YthcpfkkddfgamaaW.Hand Go.Proofs.YthcpfkkddfgamaaW.PrintWords Go.Proofs.YthcpfkkddfgamaaW.PrintLast Go.Proofs.YthcpfkkddfgamaaW.PrintMore Go.Proofs.Ythcpfkkddfgamaa.PF06C Go.Proofs.Ythcpfkkddfgamaa.Base Go.Proofs.Ythcpfkkddfgamaa.LF06C
attribute [local go_sem] max2_int min2_int max_two min_two max_three min_three max_four min_four
set_option linter.unusedVariables false
set_option linter.unusedSimpArgs false

theorem add_f (l m : List Int) (e : Int) (h : l.length + m.length < 140737488355328) : codec_Writer_add.f l e m = some (if e = 0 then l ++ m else l, e) := by
  unfold codec_Writer_add.f
  by_cases he : e = 0
  · rw [if_pos he, if_pos he, if_pos h]
  · rw [if_neg he, if_neg he]
theorem wfail_f (l : List Int) (e a : Int) : codec_Writer_Fail.f l e a = some (l, if e = 0 then a else e) := by
  unfold codec_Writer_Fail.f
  split <;> rfl
theorem WNum_e : ∀ (f : Nat) (n : Int) (l : List Int) (e : Int), e ≠ 0 → 0 ≤ n → n < 2 ^ (7 * (f + 1)) → f ≤ 7 → Ev (fun k => codec_Writer_Number.l0 k n l e) (l, e) := by
  intro f
  induction f with
  | zero =>
    intro n l e he h0 h1 hf
    have h1' : n < 128 := by simpa using h1
    apply ev_succ
    simp only [codec_Writer_Number.l0, if_neg (show ¬ n ≥ 128 by omega)]
    unfold codec_Writer_add.f
    simp only [if_neg he]
    exact ev_some _
  | succ f ih =>
    intro n l e he h0 h1 hf
    have hle : (2 : Int) ^ (7 * (f + 1 + 1)) ≤ 2 ^ 56 := pow2_le (by omega)
    have hp : (2 : Int) ^ (7 * (f + 1 + 1)) = 2 ^ (7 * (f + 1)) * 128 := by rw [show 7 * (f + 1 + 1) = 7 * (f + 1) + 7 by omega, Int.pow_add]; rfl
    apply ev_succ
    by_cases c : n ≥ 128
    · have e2 : Int.tdiv n 128 = n / 128 := Int.tdiv_eq_ediv_of_nonneg h0
      simp only [codec_Writer_Number.l0, if_pos c, codec_Writer_add.f, if_neg he, Option.bind_some, e2]
      rw [w64 (x := n / 128) (by omega) (by omega)]
      exact ih (n / 128) l e he (by omega) (by omega) (by omega)
    · simp only [codec_Writer_Number.l0, if_neg c, codec_Writer_add.f, if_neg he]
      exact ev_some _
def numW (l : List Int) (e n : Int) : List Int × Int := if n < 0 ∨ n > 72057594037927935 then (l, if e = 0 then 1 else e) else (if e = 0 then l ++ numF 7 n else l, e)
theorem WNumber_ev (l : List Int) (hl : l.length ≤ 900000000) (e n : Int) : Ev (fun k => codec_Writer_Number.f k l e n) (numW l e n) := by
  unfold codec_Writer_Number.f numW
  by_cases h0 : n < 0
  · simp only [if_pos h0, if_pos (Or.inl h0 : n < 0 ∨ n > 72057594037927935)]
    apply ev_succ
    simp only [codec_Writer_Number.j0, if_true, wfail_f, Option.bind_some]
    exact ev_some _
  · simp only [if_neg h0]
    by_cases h1 : n > 72057594037927935
    · simp only [if_pos (Or.inr h1 : n < 0 ∨ n > 72057594037927935), decide_eq_true h1]
      apply ev_succ
      simp only [codec_Writer_Number.j0, if_true, wfail_f, Option.bind_some]
      exact ev_some _
    · simp only [if_neg (show ¬ (n < 0 ∨ n > 72057594037927935) by omega), decide_eq_false h1]
      apply ev_succ
      simp only [codec_Writer_Number.j0, Bool.false_eq_true, if_false]
      by_cases he : e = 0
      · subst he
        simp only [if_true]
        exact WNum_l0 7 n l (by omega) (by omega) (by omega) (by omega)
      · simp only [if_neg he]
        exact WNum_e 7 n l e he (by omega) (by omega) (by omega)
def sgnW (l : List Int) (e n : Int) : List Int × Int := if n < -36028797018963968 ∨ n > 36028797018963967 then (l, if e = 0 then 1 else e) else (if e = 0 then l ++ numF 7 (zig n) else l, e)
theorem WSigned_ev (l : List Int) (hl : l.length ≤ 900000000) (e n : Int) : Ev (fun k => codec_Writer_Signed.f k l e n) (sgnW l e n) := by
  unfold codec_Writer_Signed.f sgnW
  by_cases h0 : n < -36028797018963968
  · simp only [if_pos h0, if_pos (Or.inl h0 : n < -36028797018963968 ∨ n > 36028797018963967)]
    apply ev_succ
    simp only [codec_Writer_Signed.j0, if_true, wfail_f, Option.bind_some]
    exact ev_some _
  · simp only [if_neg h0]
    by_cases h1 : n ≥ 36028797018963968
    · simp only [if_pos (show n < -36028797018963968 ∨ n > 36028797018963967 by omega), decide_eq_true h1]
      apply ev_succ
      simp only [codec_Writer_Signed.j0, if_true, wfail_f, Option.bind_some]
      exact ev_some _
    · simp only [if_neg (show ¬ (n < -36028797018963968 ∨ n > 36028797018963967) by omega), decide_eq_false h1]
      have hz := zig_range n (by omega) (by omega)
      have key : Ev (fun k => codec_Writer_Number.f k l e (zig n)) (if e = 0 then l ++ numF 7 (zig n) else l, e) := by
        have := WNumber_ev l hl e (zig n)
        unfold numW at this
        rw [if_neg (show ¬ (zig n < 0 ∨ zig n > 72057594037927935) by omega)] at this
        exact this
      apply ev_succ
      simp only [codec_Writer_Signed.j0, Bool.false_eq_true, if_false]
      by_cases hn : n < 0
      · have e1 : wrap64 (-1 - wrap64 (2 * n)) = zig n := by
          unfold zig
          rw [if_pos hn, w64 (x := 2 * n) (by omega) (by omega), w64 (by omega) (by omega)]
          omega
        simp only [if_pos hn, e1]
        exact ev_bind key (ev_some _)
      · have e1 : wrap64 (2 * n) = zig n := by
          unfold zig
          rw [if_neg hn, w64 (by omega) (by omega)]
        simp only [if_neg hn, e1]
        exact ev_bind key (ev_some _)
theorem WText_ev (l : List Int) (e : Int) (m : List Int) (hl : l.length ≤ 900000000) (hm : m.length ≤ 1000) : Ev (fun k => codec_Writer_Text.f k l e m) (if e = 0 then l ++ (numF 7 (m.length : Int) ++ m) else l, e) := by
  unfold codec_Writer_Text.f
  have key := WNumber_ev l hl e (m.length : Int)
  unfold numW at key
  rw [if_neg (show ¬ ((m.length : Int) < 0 ∨ (m.length : Int) > 72057594037927935) by omega)] at key
  have hf := numF_len 7 (m.length : Int)
  refine ev_bind key ?_
  by_cases he : e = 0
  · subst he
    simp only [if_true]
    rw [add_f _ _ _ (by rw [List.length_append]; omega), Option.bind_some, if_pos rfl, List.append_assoc]
    exact ev_some _
  · simp only [if_neg he]
    rw [add_f _ _ _ (by omega), Option.bind_some, if_neg he]
    exact ev_some _
/-- A Writer: the row that it has, the first error. -/
structure WSt (w : World) (g : Nat) (v : Value) (l : List Int) (e : Int) (wr : World) : Prop where
  row : Kd.R (Kd.int .u8) 5 wr w.heap.size (fun k => k ≠ g) v l
  blk : wr.heap[g]? = some (.cells #[v, .int .i64 e] 123 (0, 0))
  below : Below w.heap.size w wr
  new : w.heap.size ≤ g
/-- What a step of a Writer leaves. -/
structure WStp (g : Nat) (v v' : Value) (wr w' : World) : Prop where
  kept : Kept wr w' (fun k => some k = v.ownBlock ∨ k = g)
  own : ∀ k, v'.ownBlock = some k → some k = v.ownBlock ∨ wr.heap.size ≤ k
section
variable {w wr w' : World} {g : Nat} {v : Value} {l : List Int} {e : Int}
theorem WSt.later (s : WSt w g v l e wr) (hb : Below wr.heap.size wr w') : WSt w g v l e w' := ⟨Kd.R_below s.row hb, blk_below s.blk hb, below_step s.below hb, s.new⟩
theorem WSt.tight (s : WSt w g v l e wr) : Kd.R (Kd.int .u8) 5 wr w.heap.size (fun k => some k = v.ownBlock) v l := Kd.R_tight rfl s.row
theorem WSt.base (s : WSt w g v l e wr) : ∀ k, some k = v.ownBlock → w.heap.size ≤ k ∧ k < wr.heap.size := fun k hk => by
  have h := (Kd.R_bound s.row).1 k hk.symm
  exact ⟨h.2.1, h.2.2.1⟩
theorem WSt.next (s : WSt w g v l e wr) {v0 : Value} {r1 : List Int} {r2 : Int} (hR : Kd.R (Kd.int .u8) 5 w' w.heap.size (fun k => some k = v.ownBlock ∨ wr.heap.size ≤ k) v0 r1) (hb : w'.heap[g]? = some (.cells #[v0, .int .i64 r2] 123 (0, 0))) (hB : Below w.heap.size w w') (hk : Kept wr w' (fun k => some k = v.ownBlock ∨ k = g)) : WSt w g v0 r1 r2 w' ∧ WStp g v v0 wr w' := by
  have hlt := blk_lt s.blk
  refine ⟨⟨Kd.R_mono hR (fun k hk => ?_), hb, hB, s.new⟩, ⟨hk, fun k hk => hR.1 k hk⟩⟩
  rcases hk with hk | hk
  · exact s.row.1 k hk.symm
  · omega
theorem came_kept {A : Option Addr} {m : List Int} (hC : Kd.C (Kd.int .u8) w A m.length m) (s : WSt w g v l e wr) : ∀ W, Kept wr W (fun k => some k = v.ownBlock ∨ k = g) → Kd.C (Kd.int .u8) W A m.length m := by
  intro W hk
  refine ⟨hC.1, hC.2.1, fun hp => ?_⟩
  obtain ⟨ad, e, hcell⟩ := hC.2.2 hp
  refine ⟨ad, e, fun j p hj => ?_⟩
  obtain ⟨c, h1, h2, h3⟩ := hcell j p hj
  refine ⟨c, h1, h2, fun i u hu => ?_⟩
  have h4 := h3 i u hu
  have hlt := World.block_lt_of_cell? w _ h4
  have h5 := (s.below.cell hlt).trans h4
  have hb := s.base
  have hn := s.new
  refine cell_kept h5 hk (fun hs => ?_)
  rcases hs with hs | hs
  · have := (hb _ hs).1
    omega
  · omega
theorem WSt.fail (s : WSt w g v l e wr) (a : Int) {r1 : List Int} {r2 : Int} (h : codec_Writer_Fail.f l e a = some (r1, r2)) : Calls Try.prog 65 #[.pointer (some ⟨g, 0, none⟩), .int .i64 a] wr fun en w' => ∃ v', en = .returned (.tuple #[]) ∧ WSt w g v' r1 r2 w' ∧ WStp g v v' wr w' := by
  refine (codec_Writer_Fail.calls g (fun k => some k = v.ownBlock) v l e a r1 r2 w wr s.blk s.new s.below s.tight h).mono ?_
  rintro en w' ⟨v0, ⟨rfl, hR, hb, hB, hk⟩⟩
  obtain ⟨h1, h2⟩ := s.next hR hb hB hk
  exact ⟨v0, rfl, h1, h2⟩
theorem WSt.byte (s : WSt w g v l e wr) (a : Int) {r1 : List Int} {r2 : Int} (h : codec_Writer_Byte.f l e a = some (r1, r2)) : Calls Try.prog 87 #[.pointer (some ⟨g, 0, none⟩), .int .u8 a] wr fun en w' => ∃ v', en = .returned (.tuple #[]) ∧ WSt w g v' r1 r2 w' ∧ WStp g v v' wr w' := by
  refine (codec_Writer_Byte.calls g (fun k => some k = v.ownBlock) v l e a r1 r2 w wr s.blk s.new s.below s.tight h).mono ?_
  rintro en w' ⟨v0, ⟨rfl, hR, hb, hB, hk⟩⟩
  obtain ⟨h1, h2⟩ := s.next hR hb hB hk
  exact ⟨v0, rfl, h1, h2⟩
theorem WSt.number (s : WSt w g v l e wr) (k : Nat) (a : Int) {r1 : List Int} {r2 : Int} (h : codec_Writer_Number.f k l e a = some (r1, r2)) : Calls Try.prog 51 #[.pointer (some ⟨g, 0, none⟩), .int .i64 a] wr fun en w' => ∃ v', en = .returned (.tuple #[]) ∧ WSt w g v' r1 r2 w' ∧ WStp g v v' wr w' := by
  refine (codec_Writer_Number.calls k g (fun k => some k = v.ownBlock) v l e a r1 r2 w wr s.blk s.new s.below s.tight h).mono ?_
  rintro en w' ⟨v0, ⟨rfl, hR, hb, hB, hk⟩⟩
  obtain ⟨h1, h2⟩ := s.next hR hb hB hk
  exact ⟨v0, rfl, h1, h2⟩
theorem WSt.signed (s : WSt w g v l e wr) (k : Nat) (a : Int) {r1 : List Int} {r2 : Int} (h : codec_Writer_Signed.f k l e a = some (r1, r2)) : Calls Try.prog 81 #[.pointer (some ⟨g, 0, none⟩), .int .i64 a] wr fun en w' => ∃ v', en = .returned (.tuple #[]) ∧ WSt w g v' r1 r2 w' ∧ WStp g v v' wr w' := by
  refine (codec_Writer_Signed.calls k g (fun k => some k = v.ownBlock) v l e a r1 r2 w wr s.blk s.new s.below s.tight h).mono ?_
  rintro en w' ⟨v0, ⟨rfl, hR, hb, hB, hk⟩⟩
  obtain ⟨h1, h2⟩ := s.next hR hb hB hk
  exact ⟨v0, rfl, h1, h2⟩
theorem WSt.bool (s : WSt w g v l e wr) (a : Bool) {r1 : List Int} {r2 : Int} (h : codec_Writer_Bool.f l e a = some (r1, r2)) : Calls Try.prog 90 #[.pointer (some ⟨g, 0, none⟩), .bool a] wr fun en w' => ∃ v', en = .returned (.tuple #[]) ∧ WSt w g v' r1 r2 w' ∧ WStp g v v' wr w' := by
  refine (codec_Writer_Bool.calls g (fun k => some k = v.ownBlock) v l e a r1 r2 w wr s.blk s.new s.below s.tight h).mono ?_
  rintro en w' ⟨v0, ⟨rfl, hR, hb, hB, hk⟩⟩
  obtain ⟨h1, h2⟩ := s.next hR hb hB hk
  exact ⟨v0, rfl, h1, h2⟩
theorem WSt.text (s : WSt w g v l e wr) (k : Nat) (A : Option Addr) (m : List Int) (c : Nat) (hC : Kd.C (Kd.int .u8) w A m.length m) (hc : m.length ≤ c) {r1 : List Int} {r2 : Int} (h : codec_Writer_Text.f k l e m = some (r1, r2)) : Calls Try.prog 88 #[.pointer (some ⟨g, 0, none⟩), .slice A m.length c] wr fun en w' => ∃ v', en = .returned (.tuple #[]) ∧ WSt w g v' r1 r2 w' ∧ WStp g v v' wr w' := by
  refine (codec_Writer_Text.calls k g (fun k => some k = v.ownBlock) v l e A c m r1 r2 w wr s.blk s.new s.below s.tight (came_kept hC s) hc h).mono ?_
  rintro en w' ⟨v0, ⟨rfl, hR, hb, hB, hk⟩⟩
  obtain ⟨h1, h2⟩ := s.next hR hb hB hk
  exact ⟨v0, rfl, h1, h2⟩
theorem WSt.add (s : WSt w g v l e wr) (A : Option Addr) (m : List Int) (c : Nat) (hC : ∀ W, Kept wr W (fun k => some k = v.ownBlock ∨ k = g) → Kd.C (Kd.int .u8) W A m.length m) (hc : m.length ≤ c) {r1 : List Int} {r2 : Int} (h : codec_Writer_add.f l e m = some (r1, r2)) : Calls Try.prog 83 #[.pointer (some ⟨g, 0, none⟩), .slice A m.length c] wr fun en w' => ∃ v', en = .returned (.tuple #[]) ∧ WSt w g v' r1 r2 w' ∧ WStp g v v' wr w' := by
  refine (codec_Writer_add.calls g (fun k => some k = v.ownBlock) v l e A c m r1 r2 w wr s.blk s.new s.below s.tight hC hc h).mono ?_
  rintro en w' ⟨v0, ⟨rfl, hR, hb, hB, hk⟩⟩
  obtain ⟨h1, h2⟩ := s.next hR hb hB hk
  exact ⟨v0, rfl, h1, h2⟩
end
theorem C_arr0 {k : IntKind} {w : World} {g : Nat} {xs : List Int} {t : TypeId} (hg : w.heap[g]? = some (.cells (arr k xs) t (0, 0))) (h : xs.length ≤ maxLen) : Kd.C (Kd.int k) w (some ⟨g, 0, none⟩) xs.length xs := by
  refine ⟨rfl, h, fun hp => ⟨_, rfl, fun j p hj => ⟨[.int k p], rfl, rfl, fun i u hu => ?_⟩⟩⟩
  cases i with
  | zero =>
    have hlt := (List.getElem?_eq_some_iff.1 hj).1
    have e : u = .int k p := by simpa using hu.symm
    subst e
    have e2 : (⟨g, 0, none⟩ : Addr).add (j * (Kd.int k).sz + 0) = ⟨g, j, none⟩ := by
      rw [show (Kd.int k).sz = 1 from rfl]
      simp [Addr.add_lit]
    rw [e2, cell_of_row w g j _ t (0, 0) hg, arr_get k xs j hlt]
    unfold rd
    rw [List.getD_eq_getElem?_getD]
    simp [hj]
  | succ i => simp at hu

theorem key_row {w wr wb : World} {g gb : Nat} {v : Value} {l K : List Int} {e : Int} (s : WSt w g v l e wr) (s1 : WSt w g v l e wb) (hb : wb.heap[gb]? = some (.cells (Value.agg (arr .u8 K)).cells 90 (0, 0))) (hg : wr.heap.size = gb) (hK : K.length = 32) : ∀ W, Kept wb W (fun k => some k = v.ownBlock ∨ k = g) → Kd.C (Kd.int .u8) W (some ⟨gb, 0, none⟩) K.length K := by
  intro W hk
  have hb' : wb.heap[gb]? = some (.cells (arr .u8 K) 90 (0, 0)) := hb
  have h2 := blk_kept hb' hk (fun h => by
    rcases h with h | h
    · have := (s.base _ h).2
      omega
    · have := blk_lt s.blk
      omega)
  exact C_arr0 h2 (by rw [hK]; decide)
theorem kept_first {w W W2 : World} {S : Nat → Prop} (h : Kept W W2 S) (hb : Below w.heap.size w W) : Kept w W2 S := ⟨Nat.le_trans hb.size h.1, fun i hi hn => (h.2 i (Nat.lt_of_lt_of_le hi hb.size) hn).trans (hb.block i hi)⟩
set_option maxHeartbeats 8000000 in
set_option maxRecDepth 100000 in
theorem WSt.key {w wr : World} {g : Nat} {v : Value} {l : List Int} {e : Int} (s : WSt w g v l e wr) (K : List Int) (hK : K.length = 32) {r1 : List Int} {r2 : Int} (h : codec_Writer_add.f l e K = some (r1, r2)) : Calls Try.prog 89 #[.pointer (some ⟨g, 0, none⟩), .agg (arr .u8 K)] wr fun en w' => ∃ v', en = .returned (.tuple #[]) ∧ WSt w g v' r1 r2 w' ∧ WStp g v v' wr w' := by
  have HS := Aside0.mk s
  have HK := Aside0.mk hK
  have HF := Aside0.mk h
  clear s hK h
  go_enter Try.func89, Try.ntmps89
  go_wp2_with (first
    | ((with_reducible refine gate_dst (N := 3) rfl ?_); refine L_box rfl 90 (.tmp 1) rfl (.agg (arr .u8 K)) rfl ?_; intro gb wb hb hg hs hl; have HB := Aside0.mk hb; have HG := Aside0.mk hg; have HL := Aside0.mk hl; have HS1 := Aside0.mk (HS.out.later hl); clear hb hg hs hl)
    | (go_at_call 83; have hcall := HS1.out.add (some ⟨gb, 0, none⟩) K 32 (key_row HS.out HS1.out HB.out HG.out HK.out) (by rw [HK.out]; exact Nat.le_refl _) HF.out; rw [HK.out] at hcall; refine hcall.mono ?_; clear hcall; rintro en w' ⟨v', rfl, h1, h2⟩; have HE := Aside0.mk h1; have HT := Aside0.mk h2; clear h1 h2))
  first | ((try simp only [Exit.inBlock, Exit.then]); refine bodyPost_ret (results_none rfl _ _ _) rfl ?_) | go_end0
  exact ⟨v', rfl, HE.out, ⟨kept_first HT.out.kept HL.out, fun k hk => (HT.out.own k hk).elim .inl (fun h => .inr (Nat.le_trans HL.out.size h))⟩⟩

def wrL (l : List Int) (e : Int) (x : It) : List Int := if e = 0 then l ++ itL x else l
def wrE (e : Int) (x : It) : Int := if e = 0 then itE x else e
def WritePost (w : World) (g : Nat) (v : Value) (l : List Int) (e : Int) (x : It) (wr : World) : Ending → World → Prop := fun en w' => ∃ v', en = .returned (.tuple #[]) ∧ WSt w g v' (wrL l e x) (wrE e x) w' ∧ WStp g v v' wr w'
theorem step_first {wr wb w' : World} {g : Nat} {v v' : Value} (h : WStp g v v' wb w') (hb : Below wr.heap.size wr wb) : WStp g v v' wr w' := ⟨kept_first h.kept hb, fun k hk => (h.own k hk).elim .inl (fun h => .inr (Nat.le_trans hb.size h))⟩
set_option maxHeartbeats 8000000 in
set_option maxRecDepth 100000 in
theorem write0 {w wr : World} {g : Nat} {v : Value} {l : List Int} {e : Int} (s : WSt w g v l e wr) (hl : l.length ≤ 100000) (n : Int) (B K : List Int) (A : Option Addr) (c : Nat) (hC : Kd.C (Kd.int .u8) w A B.length B) (hc : B.length ≤ c) (hK : K.length = 32) (hB : B.length ≤ 1000) : Calls Try.prog 63 #[.pointer (some ⟨g, 0, none⟩), .agg (itC (0, n, B, K) A c).toArray] wr (WritePost w g v l e (0, n, B, K) wr) := by
  have hl0 : itL (0, n, B, K) = [n % 256] := by simp [itL]
  have he0 : itE (0, n, B, K) = 0 := by simp [itE]
  have hF : codec_Writer_Byte.f l e (n % 256) = some (wrL l e (0, n, B, K), wrE e (0, n, B, K)) := by
    unfold codec_Writer_Byte.f
    rw [add_f _ _ _ (by simp; omega)]
    unfold wrL wrE
    rw [hl0, he0]
    by_cases he : e = 0 <;> simp [he]
  have HF := Aside0.mk hF
  clear hF hl0 he0
  have HS := Aside0.mk s
  clear s hl
  have HC := Aside0.mk hC
  have HCC := Aside0.mk hc
  have HK := Aside0.mk hK
  have HBB := Aside0.mk hB
  clear hC hc hK hB
  go_enter Try.func63, Try.ntmps63
  go_wp2_with (first
    | ((with_reducible refine gate_dst (N := 3) rfl ?_); refine L_box rfl 100 (.tmp 1) rfl (.agg (itC (0, n, B, K) A c).toArray) rfl ?_; intro gx wb hb hg hs hl; have hx0 : wb.cell? ⟨gx, 0, none⟩ = some (.int .i64 0) := (box_cells hb).1; have hx1 : wb.cell? ⟨gx, 1, none⟩ = some (.int .i64 n) := (box_cells hb).2.1; have hx2 : wb.cell? ⟨gx, 2, none⟩ = some (.slice A B.length c) := (box_cells hb).2.2.1; have HX3 := Aside0.mk (show ∀ (j : Nat) (v : Value), (K.map (Value.int .u8))[j]? = some v → wb.cell? ((⟨gx, 3, none⟩ : Addr).add j) = some v from (box_cells hb).2.2.2); have HB := Aside0.mk hl; have HG := Aside0.mk hg; clear hb hg hs hl; have HS1 := Aside0.mk (HS.out.later HB.out))
    | (go_at_call 87; refine (HS1.out.byte (n % 256) HF.out).mono ?_; rintro en w' ⟨v', rfl, h1, h2⟩; have HE := Aside0.mk h1; have HT := Aside0.mk h2; clear h1 h2))
  first | ((try simp only [Exit.inBlock, Exit.then]); refine bodyPost_ret (results_none rfl _ _ _) rfl ?_) | go_end0
  exact ⟨v', rfl, HE.out, step_first HT.out HB.out⟩
set_option maxHeartbeats 8000000 in
set_option maxRecDepth 100000 in
theorem write1 {w wr : World} {g : Nat} {v : Value} {l : List Int} {e : Int} (s : WSt w g v l e wr) (hl : l.length ≤ 100000) (n : Int) (B K : List Int) (A : Option Addr) (c : Nat) (hC : Kd.C (Kd.int .u8) w A B.length B) (hc : B.length ≤ c) (hK : K.length = 32) (hB : B.length ≤ 1000) : Calls Try.prog 63 #[.pointer (some ⟨g, 0, none⟩), .agg (itC (1, n, B, K) A c).toArray] wr (WritePost w g v l e (1, n, B, K) wr) := by
  have hF : numW l e n = (wrL l e (1, n, B, K), wrE e (1, n, B, K)) := by
    unfold numW wrL wrE itL itE
    by_cases h : n < 0 ∨ n > 72057594037927935
    · by_cases he : e = 0 <;> simp [he, h]
    · by_cases he : e = 0 <;> simp [he, h]
  obtain ⟨kn, hkn⟩ := (WNumber_ev l (by omega) e n).rounds
  rw [hF] at hkn
  have HF := Aside0.mk hkn
  clear hF hkn
  have HS := Aside0.mk s
  clear s hl
  have HC := Aside0.mk hC
  have HCC := Aside0.mk hc
  have HK := Aside0.mk hK
  have HBB := Aside0.mk hB
  clear hC hc hK hB
  go_enter Try.func63, Try.ntmps63
  go_wp2_with (first
    | ((with_reducible refine gate_dst (N := 3) rfl ?_); refine L_box rfl 100 (.tmp 1) rfl (.agg (itC (1, n, B, K) A c).toArray) rfl ?_; intro gx wb hb hg hs hl; have hx0 : wb.cell? ⟨gx, 0, none⟩ = some (.int .i64 1) := (box_cells hb).1; have hx1 : wb.cell? ⟨gx, 1, none⟩ = some (.int .i64 n) := (box_cells hb).2.1; have hx2 : wb.cell? ⟨gx, 2, none⟩ = some (.slice A B.length c) := (box_cells hb).2.2.1; have HX3 := Aside0.mk (show ∀ (j : Nat) (v : Value), (K.map (Value.int .u8))[j]? = some v → wb.cell? ((⟨gx, 3, none⟩ : Addr).add j) = some v from (box_cells hb).2.2.2); have HB := Aside0.mk hl; have HG := Aside0.mk hg; clear hb hg hs hl; have HS1 := Aside0.mk (HS.out.later HB.out))
    | (go_at_call 51; refine (HS1.out.number kn n HF.out).mono ?_; rintro en w' ⟨v', rfl, h1, h2⟩; have HE := Aside0.mk h1; have HT := Aside0.mk h2; clear h1 h2))
  first | ((try simp only [Exit.inBlock, Exit.then]); refine bodyPost_ret (results_none rfl _ _ _) rfl ?_) | go_end0
  exact ⟨v', rfl, HE.out, step_first HT.out HB.out⟩
set_option maxHeartbeats 8000000 in
set_option maxRecDepth 100000 in
theorem write2 {w wr : World} {g : Nat} {v : Value} {l : List Int} {e : Int} (s : WSt w g v l e wr) (hl : l.length ≤ 100000) (n : Int) (B K : List Int) (A : Option Addr) (c : Nat) (hC : Kd.C (Kd.int .u8) w A B.length B) (hc : B.length ≤ c) (hK : K.length = 32) (hB : B.length ≤ 1000) : Calls Try.prog 63 #[.pointer (some ⟨g, 0, none⟩), .agg (itC (2, n, B, K) A c).toArray] wr (WritePost w g v l e (2, n, B, K) wr) := by
  have hF : sgnW l e n = (wrL l e (2, n, B, K), wrE e (2, n, B, K)) := by
    unfold sgnW wrL wrE itL itE
    by_cases h : n < -36028797018963968 ∨ n > 36028797018963967
    · by_cases he : e = 0 <;> simp [he, h]
    · by_cases he : e = 0 <;> simp [he, h]
  obtain ⟨kn, hkn⟩ := (WSigned_ev l (by omega) e n).rounds
  rw [hF] at hkn
  have HF := Aside0.mk hkn
  clear hF hkn
  have HS := Aside0.mk s
  clear s hl
  have HC := Aside0.mk hC
  have HCC := Aside0.mk hc
  have HK := Aside0.mk hK
  have HBB := Aside0.mk hB
  clear hC hc hK hB
  go_enter Try.func63, Try.ntmps63
  go_wp2_with (first
    | ((with_reducible refine gate_dst (N := 3) rfl ?_); refine L_box rfl 100 (.tmp 1) rfl (.agg (itC (2, n, B, K) A c).toArray) rfl ?_; intro gx wb hb hg hs hl; have hx0 : wb.cell? ⟨gx, 0, none⟩ = some (.int .i64 2) := (box_cells hb).1; have hx1 : wb.cell? ⟨gx, 1, none⟩ = some (.int .i64 n) := (box_cells hb).2.1; have hx2 : wb.cell? ⟨gx, 2, none⟩ = some (.slice A B.length c) := (box_cells hb).2.2.1; have HX3 := Aside0.mk (show ∀ (j : Nat) (v : Value), (K.map (Value.int .u8))[j]? = some v → wb.cell? ((⟨gx, 3, none⟩ : Addr).add j) = some v from (box_cells hb).2.2.2); have HB := Aside0.mk hl; have HG := Aside0.mk hg; clear hb hg hs hl; have HS1 := Aside0.mk (HS.out.later HB.out))
    | (go_at_call 81; refine (HS1.out.signed kn n HF.out).mono ?_; rintro en w' ⟨v', rfl, h1, h2⟩; have HE := Aside0.mk h1; have HT := Aside0.mk h2; clear h1 h2))
  first | ((try simp only [Exit.inBlock, Exit.then]); refine bodyPost_ret (results_none rfl _ _ _) rfl ?_) | go_end0
  exact ⟨v', rfl, HE.out, step_first HT.out HB.out⟩
set_option maxHeartbeats 8000000 in
set_option maxRecDepth 100000 in
theorem write3 {w wr : World} {g : Nat} {v : Value} {l : List Int} {e : Int} (s : WSt w g v l e wr) (hl : l.length ≤ 100000) (n : Int) (B K : List Int) (A : Option Addr) (c : Nat) (hC : Kd.C (Kd.int .u8) w A B.length B) (hc : B.length ≤ c) (hK : K.length = 32) (hB : B.length ≤ 1000) : Calls Try.prog 63 #[.pointer (some ⟨g, 0, none⟩), .agg (itC (3, n, B, K) A c).toArray] wr (WritePost w g v l e (3, n, B, K) wr) := by
  have hl0 : itL (3, n, B, K) = numF 7 (B.length : Int) ++ B := by simp [itL]
  have he0 : itE (3, n, B, K) = 0 := by simp [itE]
  obtain ⟨kn, hkn⟩ := (WText_ev l e B (by omega) hB).rounds
  have hF : codec_Writer_Text.f kn l e B = some (wrL l e (3, n, B, K), wrE e (3, n, B, K)) := by
    rw [hkn]
    unfold wrL wrE
    rw [hl0, he0]
    by_cases he : e = 0 <;> simp [he]
  have HF := Aside0.mk hF
  clear hF hkn hl0 he0
  have HS := Aside0.mk s
  clear s hl
  have HC := Aside0.mk hC
  have HCC := Aside0.mk hc
  have HK := Aside0.mk hK
  have HBB := Aside0.mk hB
  clear hC hc hK hB
  go_enter Try.func63, Try.ntmps63
  go_wp2_with (first
    | ((with_reducible refine gate_dst (N := 3) rfl ?_); refine L_box rfl 100 (.tmp 1) rfl (.agg (itC (3, n, B, K) A c).toArray) rfl ?_; intro gx wb hb hg hs hl; have hx0 : wb.cell? ⟨gx, 0, none⟩ = some (.int .i64 3) := (box_cells hb).1; have hx1 : wb.cell? ⟨gx, 1, none⟩ = some (.int .i64 n) := (box_cells hb).2.1; have hx2 : wb.cell? ⟨gx, 2, none⟩ = some (.slice A B.length c) := (box_cells hb).2.2.1; have HX3 := Aside0.mk (show ∀ (j : Nat) (v : Value), (K.map (Value.int .u8))[j]? = some v → wb.cell? ((⟨gx, 3, none⟩ : Addr).add j) = some v from (box_cells hb).2.2.2); have HB := Aside0.mk hl; have HG := Aside0.mk hg; clear hb hg hs hl; have HS1 := Aside0.mk (HS.out.later HB.out))
    | (go_at_call 88; refine (HS1.out.text kn A B c HC.out HCC.out HF.out).mono ?_; rintro en w' ⟨v', rfl, h1, h2⟩; have HE := Aside0.mk h1; have HT := Aside0.mk h2; clear h1 h2))
  first | ((try simp only [Exit.inBlock, Exit.then]); refine bodyPost_ret (results_none rfl _ _ _) rfl ?_) | go_end0
  exact ⟨v', rfl, HE.out, step_first HT.out HB.out⟩
set_option maxHeartbeats 8000000 in
set_option maxRecDepth 100000 in
theorem write4 {w wr : World} {g : Nat} {v : Value} {l : List Int} {e : Int} (s : WSt w g v l e wr) (hl : l.length ≤ 100000) (n : Int) (B K : List Int) (A : Option Addr) (c : Nat) (hC : Kd.C (Kd.int .u8) w A B.length B) (hc : B.length ≤ c) (hK : K.length = 32) (hB : B.length ≤ 1000) : Calls Try.prog 63 #[.pointer (some ⟨g, 0, none⟩), .agg (itC (4, n, B, K) A c).toArray] wr (WritePost w g v l e (4, n, B, K) wr) := by
  have hl0 : itL (4, n, B, K) = K := by simp [itL]
  have he0 : itE (4, n, B, K) = 0 := by simp [itE]
  have hF : codec_Writer_add.f l e K = some (wrL l e (4, n, B, K), wrE e (4, n, B, K)) := by
    rw [add_f _ _ _ (by omega)]
    unfold wrL wrE
    rw [hl0, he0]
    by_cases he : e = 0 <;> simp [he]
  have HF := Aside0.mk hF
  clear hF hl0 he0
  have HS := Aside0.mk s
  clear s hl
  have HC := Aside0.mk hC
  have HCC := Aside0.mk hc
  have HK := Aside0.mk hK
  have HBB := Aside0.mk hB
  clear hC hc hK hB
  go_enter Try.func63, Try.ntmps63
  go_wp2_with (first
    | ((with_reducible refine gate_dst (N := 3) rfl ?_); refine L_box rfl 100 (.tmp 1) rfl (.agg (itC (4, n, B, K) A c).toArray) rfl ?_; intro gx wb hb hg hs hl; have hx0 : wb.cell? ⟨gx, 0, none⟩ = some (.int .i64 4) := (box_cells hb).1; have hx1 : wb.cell? ⟨gx, 1, none⟩ = some (.int .i64 n) := (box_cells hb).2.1; have hx2 : wb.cell? ⟨gx, 2, none⟩ = some (.slice A B.length c) := (box_cells hb).2.2.1; have HX3 := Aside0.mk (show ∀ (j : Nat) (v : Value), (K.map (Value.int .u8))[j]? = some v → wb.cell? ((⟨gx, 3, none⟩ : Addr).add j) = some v from (box_cells hb).2.2.2); have HB := Aside0.mk hl; have HG := Aside0.mk hg; clear hb hg hs hl; have HS1 := Aside0.mk (HS.out.later HB.out))
    | ((with_reducible refine gate_dst (N := 41) rfl ?_); refine L_loadlist rfl 90 (.tmp 40) rfl ⟨gx, 3, none⟩ rfl (K.map (Value.int .u8)) _ HX3.out Try.underlying90 rfl (by rw [List.length_map, HK.out]; kernel_rfl) ?_)
    | (go_at_call 89; refine (HS1.out.key K HK.out HF.out).mono ?_; rintro en w' ⟨v', rfl, h1, h2⟩; have HE := Aside0.mk h1; have HT := Aside0.mk h2; clear h1 h2))
  first | ((try simp only [Exit.inBlock, Exit.then]); refine bodyPost_ret (results_none rfl _ _ _) rfl ?_) | go_end0
  exact ⟨v', rfl, HE.out, step_first HT.out HB.out⟩
set_option maxHeartbeats 8000000 in
set_option maxRecDepth 100000 in
theorem write5 {w wr : World} {g : Nat} {v : Value} {l : List Int} {e : Int} (s : WSt w g v l e wr) (hl : l.length ≤ 100000) (n : Int) (B K : List Int) (A : Option Addr) (c : Nat) (hC : Kd.C (Kd.int .u8) w A B.length B) (hc : B.length ≤ c) (hK : K.length = 32) (hB : B.length ≤ 1000) (k : Int) (h0 : (k == 0) = false) (h1 : (k == 1) = false) (h2 : (k == 2) = false) (h3 : (k == 3) = false) (h4 : (k == 4) = false) : Calls Try.prog 63 #[.pointer (some ⟨g, 0, none⟩), .agg (itC (k, n, B, K) A c).toArray] wr (WritePost w g v l e (k, n, B, K) wr) := by
  have n0 : ¬ k = 0 := beq_eq_false_iff_ne.mp h0
  have n1 : ¬ k = 1 := beq_eq_false_iff_ne.mp h1
  have n2 : ¬ k = 2 := beq_eq_false_iff_ne.mp h2
  have n3 : ¬ k = 3 := beq_eq_false_iff_ne.mp h3
  have n4 : ¬ k = 4 := beq_eq_false_iff_ne.mp h4
  have he0 : itE (k, n, B, K) = 0 := by simp [itE, n1, n2]
  have hF : codec_Writer_Bool.f l e (Int.tmod n 2 != 0) = some (wrL l e (k, n, B, K), wrE e (k, n, B, K)) := by
    unfold codec_Writer_Bool.f
    rw [add_f _ _ _ (by simp; omega), add_f _ _ _ (by simp; omega)]
    unfold wrL wrE
    rw [he0]
    by_cases h : Int.tmod n 2 = 0
    · have hl0 : itL (k, n, B, K) = [0] := by simp [itL, n0, n1, n2, n3, n4, h]
      rw [hl0, h]
      by_cases he : e = 0 <;> simp [he]
    · have hl0 : itL (k, n, B, K) = [1] := by simp [itL, n0, n1, n2, n3, n4, h]
      rw [hl0]
      by_cases he : e = 0 <;> simp [he, h]
  have HF := Aside0.mk hF
  clear hF he0 n0 n1 n2 n3 n4
  have HS := Aside0.mk s
  clear s hl
  have HC := Aside0.mk hC
  have HCC := Aside0.mk hc
  have HK := Aside0.mk hK
  have HBB := Aside0.mk hB
  clear hC hc hK hB
  go_enter Try.func63, Try.ntmps63
  go_wp2_with (first
    | ((with_reducible refine gate_dst (N := 3) rfl ?_); refine L_box rfl 100 (.tmp 1) rfl (.agg (itC (k, n, B, K) A c).toArray) rfl ?_; intro gx wb hb hg hs hl; have hx0 : wb.cell? ⟨gx, 0, none⟩ = some (.int .i64 k) := (box_cells hb).1; have hx1 : wb.cell? ⟨gx, 1, none⟩ = some (.int .i64 n) := (box_cells hb).2.1; have hx2 : wb.cell? ⟨gx, 2, none⟩ = some (.slice A B.length c) := (box_cells hb).2.2.1; have HX3 := Aside0.mk (show ∀ (j : Nat) (v : Value), (K.map (Value.int .u8))[j]? = some v → wb.cell? ((⟨gx, 3, none⟩ : Addr).add j) = some v from (box_cells hb).2.2.2); have HB := Aside0.mk hl; have HG := Aside0.mk hg; clear hb hg hs hl; have HS1 := Aside0.mk (HS.out.later HB.out))
    | (go_at_call 90; refine (HS1.out.bool (Int.tmod n 2 != 0) HF.out).mono ?_; rintro en w' ⟨v', rfl, h1, h2⟩; have HE := Aside0.mk h1; have HT := Aside0.mk h2; clear h1 h2))
  first | ((try simp only [Exit.inBlock, Exit.then]); refine bodyPost_ret (results_none rfl _ _ _) rfl ?_) | go_end0
  exact ⟨v', rfl, HE.out, step_first HT.out HB.out⟩
theorem write_calls {w wr : World} {g : Nat} {v : Value} {l : List Int} {e : Int} (s : WSt w g v l e wr) (hl : l.length ≤ 100000) (x : It) (A : Option Addr) (c : Nat) (hC : Kd.C (Kd.int .u8) w A x.2.2.1.length x.2.2.1) (hc : x.2.2.1.length ≤ c) (hK : x.2.2.2.length = 32) (hB : x.2.2.1.length ≤ 1000) : Calls Try.prog 63 #[.pointer (some ⟨g, 0, none⟩), .agg (itC x A c).toArray] wr (WritePost w g v l e x wr) := by
  obtain ⟨k, n, B, K⟩ := x
  by_cases h0 : k = 0
  · subst h0
    exact write0 s hl n B K A c hC hc hK hB
  by_cases h1 : k = 1
  · subst h1
    exact write1 s hl n B K A c hC hc hK hB
  by_cases h2 : k = 2
  · subst h2
    exact write2 s hl n B K A c hC hc hK hB
  by_cases h3 : k = 3
  · subst h3
    exact write3 s hl n B K A c hC hc hK hB
  by_cases h4 : k = 4
  · subst h4
    exact write4 s hl n B K A c hC hc hK hB
  exact write5 s hl n B K A c hC hc hK hB k (beq_eq_false_iff_ne.mpr h0) (beq_eq_false_iff_ne.mpr h1) (beq_eq_false_iff_ne.mpr h2) (beq_eq_false_iff_ne.mpr h3) (beq_eq_false_iff_ne.mpr h4)

end Go.Proofs.Ythcpfkkddfgamaa.Cod
