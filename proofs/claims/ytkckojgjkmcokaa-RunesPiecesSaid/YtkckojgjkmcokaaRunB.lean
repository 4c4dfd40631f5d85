/- runes.Runes, runes.Count: walks over the signs of a text. No condition. -/
import Derived.Test.YtkckojgjkmcokaaRunA
import Derived.Laws.RangeAny
import Derived.Lib.DecodeN
namespace Go.Proofs.Ytkckojgjkmcokaa.Sha
open Go.AnyFacts Go.RowKit Go.Proofs.YtkckojgjkmcokaaW.Hand Go.Proofs.YtkckojgjkmcokaaW.PrintWords Go.Proofs.YtkckojgjkmcokaaW.PrintLast Go.Proofs.YtkckojgjkmcokaaW.PrintMore Go.Proofs.Ytkckojgjkmcokaa.PF08T Go.Proofs.Ytkckojgjkmcokaa.Base Go.Proofs.Ytkckojgjkmcokaa.LF08T
set_option linter.unusedVariables false
set_option linter.unusedSimpArgs false

/-- The signs of a text, from a place on, behind others. -/
def rnO (s : ByteArray) : Nat → Nat → List Int → Option (List Int)
  | 0, _, _ => none
  | n + 1, pos, acc => if pos < s.size then rnO s n (pos + (Utf8.decode s pos).2) (acc ++ [(((Utf8.decode s pos).1 : Nat) : Int)]) else some acc
theorem decode_width (s : ByteArray) (pos : Nat) : 1 ≤ (Utf8.decode s pos).2 ∧ (Utf8.decode s pos).2 ≤ 4 := by
  simp only [Utf8.decode]
  repeat' split
  all_goals simp
theorem R_noiter {α : Type} {d : Kd α} {e base g : Nat} {w : World} {ok : Nat → Prop} {v : Value} {xs : List α} {s : ByteArray} {pos : Nat} (h : Kd.R d e w base ok v xs) (hg : w.heap[g]? = some (.stringIter s pos)) : v.ownBlock ≠ some g := by
  intro hv
  obtain ⟨cells, hc⟩ := Kd.R_typed h g hv
  rw [hg] at hc
  cases hc
theorem C_arr {k : IntKind} {w : World} {g t : Nat} {xs : List Int} (hb : w.heap[g]? = some (.cells (arr k xs) t (0, 0))) (hl : xs.length ≤ 1000000) : Kd.C (Kd.int k) w (some ⟨g, 0, none⟩) xs.length xs := by
  refine ⟨rfl, by omega, fun hp => ⟨_, rfl, fun j p hj => ⟨[.int k p], rfl, rfl, fun i u hu => ?_⟩⟩⟩
  have hi : i = 0 := by
    have := (List.getElem?_eq_some_iff.1 hu).1
    simp at this
    omega
  subst hi
  have e : Value.int k p = u := by simpa using hu
  subst e
  rw [show (Kd.int k).sz = 1 from rfl, Nat.mul_one, Nat.add_zero, add_plain, blk_cell hb j]
  unfold arr
  rw [List.getElem?_toArray, List.getElem?_map, hj]
  rfl
theorem R_iter {α : Type} {d : Kd α} {e base g : Nat} {w w' : World} {ok : Nat → Prop} {v : Value} {xs : List α} {s : ByteArray} {pos : Nat} (h : Kd.R d e w base ok v xs) (hg : w.heap[g]? = some (.stringIter s pos)) (hu : Upd w w' g) : Kd.R d e w' base ok v xs :=
  Kd.R_mono (Kd.R_step (Kd.R_bound h) (fun k hk _ => hu.block k (fun e => by
    subst e
    obtain ⟨_, _, _, q, _, cells, hc⟩ := hk
    rw [hg] at hc
    cases hc))) (fun _ hk => hk.1)
set_option maxHeartbeats 8000000 in
set_option maxRecDepth 100000 in
theorem Runes_calls (s : ByteArray) (kv : Nat) (b : Bool) (k : Nat) (L R : List Int) (w : World) (hs : s.size ≤ 1000000) (hv : vd s kv 0 0 = some b) (hL : tells [] (bytesS s) = L) (hR : rnO s k 0 [] = some R) :
    Calls Try.prog 26 #[.string s] w fun e w' => ∃ A c, e = .returned (.slice A (if b = true then R else L).length c) ∧ (if b = true then R else L).length ≤ c ∧ Kd.C (Kd.int .i32) w' A (if b = true then R else L).length (if b = true then R else L) ∧ Below w.heap.size w w' := by
  have HV := Aside0.mk (Valid_calls s kv b w hs hv)
  have hall : ∃ k, runes_All.f k (bytesS s) = some L := by
    have := (All_ev (bytesS s) (by rw [bytesS_length]; exact hs) (bytesS_bytes s)).rounds
    rw [hL] at this
    exact this
  obtain ⟨ka, hka⟩ := hall
  have HKA := Aside0.mk hka
  have HRR := Aside0.mk hR
  clear hv hL hka hR
  cases b with
  | false =>
    simp only [Bool.false_eq_true, if_false]
    go_enter Try.func26, Try.ntmps26
    go_wp2_with (first | (go_at_call 28; refine HV.out.mono ?_; rintro e w1 ⟨rfl, hb1⟩; have HB1 := Aside0.mk hb1; clear hb1) | ((with_reducible refine gate_dst (N := 10) rfl ?_); refine L_conv rfl 9 22 (.tmp 9) rfl s rfl Try.underlying9 Try.underlying22 Try.underlying5 (Nat.le_trans hs (by decide)) w1.heap.size (Nat.le_refl _) ?_; intro v2 w2 hq2 hb2; obtain ⟨A2, c2, rfl, hle2⟩ := hq2.slice; have HQ2 := Aside0.mk hq2; have HB2 := Aside0.mk hb2; clear hq2 hb2) | (go_at_call 20; refine (runes_All.calls ka A2 c2 (bytesS s) L _ HQ2.out.C hle2 HKA.out).mono ?_; rintro e w3 ⟨v3, rfl, hr3, hb3⟩; obtain ⟨A3, c3, rfl, hle3, hC3⟩ := Kd.R_reads hr3; have HC3 := Aside0.mk hC3; have HB3 := Aside0.mk hb3; clear hr3 hb3 hC3))
    go_ret
    exact ⟨_, _, rfl, hle3, HC3.out, below_step (below_step HB1.out HB2.out) HB3.out⟩
  | true =>
    simp only [if_true]
    go_enter Try.func26, Try.ntmps26
    go_wp2_with (go_at_call 28; refine HV.out.mono ?_; rintro e w1 ⟨rfl, hb1⟩; have HB1 := Aside0.mk hb1; clear hb1)
    go_loopg [3] k (fun kq v3 wr => ∃ (pos : Nat) (acc : List Int), Aside0 (rnO s kq pos acc = some R) ∧ Aside0 (kq ≤ k) ∧ Aside0 (wr.heap[w1.heap.size]? = some (.stringIter s pos) ∧ Below w.heap.size w wr ∧ Kd.R (Kd.int .i32) 21 wr w.heap.size (fun _ => True) v3 acc ∧ acc.length ≤ pos ∧ pos ≤ 1000004 ∧ w.heap.size ≤ w1.heap.size))
    case atStart => exact ⟨0, [], HRR, ⟨Nat.le_refl _⟩, ⟨World.iter_heap w1 s 0, HB1.out.alloc HB1.out.size _, Kd.R_nil _ _ _ _ _, Nat.le_refl _, by omega, HB1.out.size⟩⟩
    case round =>
      clear HRR
      obtain ⟨pos, acc, HA, HK1, HR⟩ := hrel
      cases gk with
      | zero => exact absurd HA.out (by simp [rnO])
      | succ k1 =>
        have H := HA.out
        clear HA
        simp only [rnO] at H
        obtain ⟨A, cap, hsl⟩ := Kd.R_slice HR.out.2.2.1
        by_cases hp : pos < s.size
        · rw [if_pos hp] at H
          have hd := decode_le s pos
          have hw := decode_width s pos
          obtain ⟨c, hc⟩ : ∃ c, c = (Utf8.decode s pos).1 := ⟨_, rfl⟩
          obtain ⟨W_, hW⟩ : ∃ W_, W_ = (Utf8.decode s pos).2 := ⟨_, rfl⟩
          rw [← hc, ← hW] at H
          rw [← hc] at hd
          rw [← hW] at hw
          have HN := Aside0.mk (show ∀ {ops : Array Oper} {rest : List Oper} {o : Oper} {a : Act} {Q : Exit → Act → World → Prop} (hgd : o.guard = none) (x : Operand) (ho : o.op = .next x true) (hx : a.eval x = .pointer (some ⟨w1.heap.size, 0, none⟩)) (h : ∀ w', w'.heap[w1.heap.size]? = some (.stringIter s (pos + W_)) → Upd wr w' w1.heap.size → wpList Try.prog ops Q rest (a.put o.dst (.tuple #[.bool true, .int .i64 pos, .int .i32 (c : Nat)])) w'), wpList Try.prog ops Q (o :: rest) a wr from by
            intro ops rest o a Q hgd x ho hx h
            refine L_next hgd x ho w1.heap.size hx s pos HR.out.1 hp ?_
            rw [← hc, ← hW]
            exact h)
          have hpl : pos ≤ 1000000 := by omega
          have HAL := Aside0.mk HR.out.2.2.2.1
          obtain ⟨acc2, hacc2⟩ : ∃ acc2, acc2 = acc ++ [((c : Nat) : Int)] := ⟨_, rfl⟩
          rw [← hacc2] at H
          have HAC := Aside0.mk hacc2
          have H' := Aside0.mk H
          clear hc hW H hacc2
          clear hsl
          go_wp2_with (first | ((with_reducible refine gate_dst (N := 14) rfl ?_); refine HN.out rfl (.tmp 13) rfl rfl ?_; intro w2 hw2 hu2; have HW2 := Aside0.mk hw2; have HR2 := Aside0.mk (R_iter HR.out.2.2.1 HR.out.1 hu2); have HU2 := Aside0.mk (hu2.below HR.out.2.1 HR.out.2.2.2.2.2); clear hw2 hu2) | ((with_reducible refine gate_dst (N := 19) rfl ?_); refine L_bslice rfl 30 21 1 _ rfl Try.underlying30 (arr .i32 [((c : Nat) : Int)]) (by kernel_rfl) ?_; intro g4 w4 hb4 hg4 hs4 hl4; have HB4 := Aside0.mk hb4; have HL4 := Aside0.mk hl4; clear hb4 hg4 hs4 hl4) | ((with_reducible refine gate_builtin (b := .append) (xs := #[.tmp 17, .tmp 19]) rfl ?_); at_builtin; refine Kd.R_append_rows (Kd.int .i32) (w0 := w) w.heap.size rfl (.tmp 17) (.tmp 19) 30 21 (.int .i32 0) 4 rfl Try.underlying30 info21 rfl (by decide) (by omega) u3 acc [((c : Nat) : Int)] (some ⟨g4, 0, none⟩) 1 1 (fun _ => True) (fun _ => False) rfl rfl (Kd.R_below HR2.out HL4.out) (C_arr (xs := [((c : Nat) : Int)]) HB4.out (by simp)) (fun _ _ h => h) (fun _ h => h.elim) (fun _ _ => trivial) (below_step HU2.out HL4.out) (Nat.le_trans HU2.out.size HL4.out.size) (by have := HAL.out; omega) ?_; intro v5 w5 ho5 hb5 hg5 hat5; rw [← HAC.out] at ho5; have HO5 := Aside0.mk ho5; have HB5 := Aside0.mk hb5; have HIT := Aside0.mk ((hg5.block _ (Nat.lt_of_lt_of_le (Array.getElem?_eq_some_iff.1 HW2.out).1 HL4.out.size) (fun e => R_noiter (Kd.R_below HR2.out HL4.out) ((HL4.out.block _ (Array.getElem?_eq_some_iff.1 HW2.out).1).trans HW2.out) e.symm)).trans ((HL4.out.block _ (Array.getElem?_eq_some_iff.1 HW2.out).1).trans HW2.out)); clear ho5 hb5 hg5 hat5))
          go_roundg k1
          case measure => have := HK1.out; omega
          case rel =>
            refine ⟨pos + W_, acc2, H', ⟨by have := HK1.out; omega⟩, ⟨HIT.out, HB5.out, HO5.out, ?_, by omega, HR.out.2.2.2.2.2⟩⟩
            rw [HAC.out, List.length_append, List.length_singleton]
            have := HAL.out
            omega
        · rw [if_neg hp] at H
          obtain rfl := Option.some.inj H
          clear H
          have HN := Aside0.mk (show ∀ {ops : Array Oper} {rest : List Oper} {o : Oper} {a : Act} {Q : Exit → Act → World → Prop} (hgd : o.guard = none) (x : Operand) (ho : o.op = .next x true) (hx : a.eval x = .pointer (some ⟨w1.heap.size, 0, none⟩)) (h : wpList Try.prog ops Q rest (a.put o.dst (.tuple #[.bool false])) wr), wpList Try.prog ops Q (o :: rest) a wr from
            fun hgd x ho hx h => L_over hgd x ho w1.heap.size hx s pos HR.out.1 hp h)
          obtain ⟨A', c', e', hle', hC'⟩ := Kd.R_reads HR.out.2.2.1
          have HCC := Aside0.mk hC'
          clear hC' hsl
          subst e'
          go_wp2_with ((with_reducible refine gate_dst (N := 14) rfl ?_; refine HN.out rfl (.tmp 13) rfl rfl ?_))
          go_ret
          exact ⟨_, _, rfl, hle', HCC.out, HR.out.2.1⟩
/-- How many. -/
theorem Count_calls (s : ByteArray) (kv : Nat) (b : Bool) (k : Nat) (L R : List Int) (w : World) (hs : s.size ≤ 1000000) (hv : vd s kv 0 0 = some b) (hL : tells [] (bytesS s) = L) (hR : rnO s k 0 [] = some R) :
    Calls Try.prog 27 #[.string s] w fun e w' => e = .returned (.int .i64 ((if b = true then R else L).length : Int)) ∧ Below w.heap.size w w' := by
  have HC := Aside0.mk (fun w : World => Runes_calls s kv b k L R w hs hv hL hR)
  obtain ⟨X, hX⟩ : ∃ X, X = (if b = true then R else L) := ⟨_, rfl⟩
  rw [← hX] at HC ⊢
  clear hv hL hR hX
  go_enter Try.func27, Try.ntmps27
  go_wp2_with (go_at_call 26; refine (HC.out _).mono ?_; rintro e w1 ⟨A1, c1, rfl, hle1, hC1, hb1⟩; have HB1 := Aside0.mk hb1; clear hb1 hC1)
  go_ret
  exact ⟨rfl, HB1.out⟩
end Go.Proofs.Ytkckojgjkmcokaa.Sha
