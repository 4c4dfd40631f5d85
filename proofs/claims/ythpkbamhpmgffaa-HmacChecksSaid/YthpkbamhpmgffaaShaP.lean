/- Hand-written walks and plain lemmas of sha, hmac, keys: what each Go function comes to. No condition. -/
import Derived.Test.YthpkbamhpmgffaaShaI
import Derived.Test.YthpkbamhpmgffaaPF02x
namespace Go.Proofs.Ythpkbamhpmgffaa.Sha
open Go.RowKit Go.Proofs.YthpkbamhpmgffaaW.Hand Go.Proofs.YthpkbamhpmgffaaW.PrintWords Go.Proofs.YthpkbamhpmgffaaW.PrintLast Go.Proofs.YthpkbamhpmgffaaW.PrintMore Go.Proofs.Ythpkbamhpmgffaa.PF02 Go.Proofs.Ythpkbamhpmgffaa.Base Go.Proofs.Ythpkbamhpmgffaa.LF02
set_option linter.unusedVariables false
set_option linter.unusedSimpArgs false

/-! ### the reference agrees -/
def U32 (xs : List Int) : Prop := ∀ x ∈ xs, 0 ≤ x ∧ x ≤ 4294967295
theorem bits_u32 (op : BinOp) (a b : Int) : 0 ≤ Go.bits op .u32 a b ∧ Go.bits op .u32 a b ≤ 4294967295 := by
  unfold Go.bits
  cases op <;> simp only [IntKind.wrap_u32] <;> omega
theorem U32.rd {xs : List Int} (h : U32 xs) (i : Int) : 0 ≤ Go.Proofs.YthpkbamhpmgffaaW.PrintWords.rd xs i ∧ Go.Proofs.YthpkbamhpmgffaaW.PrintWords.rd xs i ≤ 4294967295 := by
  unfold Go.Proofs.YthpkbamhpmgffaaW.PrintWords.rd
  rw [List.getD_eq_getElem?_getD]
  cases e : xs[i.toNat]? with
  | none => simp
  | some x => exact h x (List.mem_of_getElem? e)
theorem rot_eq {x : Int} (h0 : 0 ≤ x) (h1 : x ≤ 4294967295) (n : Nat) (hn : n < 32) : rot x n = rotS x n := by
  unfold rot
  rw [Rot_eq x n h0 h1 (by omega) (by omega)]
  have : ((n : Int) % 32).toNat = n := by omega
  rw [this]
  rfl
theorem refRot_ev' {x : Int} (h0 : 0 ≤ x) (h1 : x ≤ 4294967295) (n : Nat) (hn : n < 32) : Ev (fun k => batonref01_Rot.f k x (n : Int)) (rot x n) := by
  rw [rot_eq h0 h1 n hn]
  exact refRot_ev x n hn h0 h1
theorem refShr_l0 (n : Nat) (hn : n ≤ 31) : ∀ (d i : Nat) (x : Int), n - i = d → i ≤ n → 0 ≤ x → x ≤ 4294967295 → Ev (fun k => batonref02_shr.l0 k x (n : Int) (i : Int)) (x / 2 ^ (n - i)) := by
  intro d
  induction d with
  | zero =>
    intro i x hd hi h0 h1
    obtain rfl : i = n := by omega
    apply ev_succ
    simp only [batonref02_shr.l0, if_neg (show ¬ ((i : Int) < (i : Int)) by omega)]
    exact ev_eq (ev_some _) (by simp)
  | succ d ih =>
    intro i x hd hi h0 h1
    have hw : wrap64 ((i : Int) + 1) = ((i + 1 : Nat) : Int) := by rw [w64 (by omega) (by omega)]; omega
    have e : Int.tdiv x 2 % 4294967296 = x / 2 := by rw [Int.tdiv_eq_ediv_of_nonneg h0]; omega
    apply ev_succ
    simp only [batonref02_shr.l0, if_pos (show (i : Int) < (n : Int) by omega), hw, e]
    refine ev_eq (ih (i + 1) (x / 2) (by omega) (by omega) (by omega) (by omega)) ?_
    rw [show n - i = (n - (i + 1)) + 1 by omega, Int.pow_succ, Int.mul_comm, Int.ediv_ediv_of_nonneg (by omega)]
theorem refShr_ev {x : Int} (h0 : 0 ≤ x) (h1 : x ≤ 4294967295) (n : Nat) (hn : n ≤ 31) : Ev (fun k => batonref02_shr.f k x (n : Int)) (x / 2 ^ n) := by
  unfold batonref02_shr.f
  have := refShr_l0 n hn n 0 x (by omega) (by omega) h0 h1
  simpa using this
theorem refRots_ev {x : Int} (h0 : 0 ≤ x) (h1 : x ≤ 4294967295) (a b c : Nat) (ha : a < 32) (hb : b < 32) (hc : c < 32) : Ev (fun k => batonref02_rots.f k x (a : Int) (b : Int) (c : Int)) (xo (xo (rot x a) (rot x b)) (rot x c)) := by
  unfold batonref02_rots.f
  exact ev_bind (refRot_ev' h0 h1 a ha) (ev_bind (refRot_ev' h0 h1 b hb) (ev_bind (refRot_ev' h0 h1 c hc) (ev_some _)))
theorem U32.append {xs ys : List Int} (h : U32 xs) (k : U32 ys) : U32 (xs ++ ys) := fun x hx => (List.mem_append.1 hx).elim (h x) (k x)
theorem sched_u32 {l : List Int} (h : U32 l) (n : Nat) : U32 (sched l n) := by
  induction n with
  | zero => exact h
  | succ n ih =>
    refine ih.append (fun x hx => ?_)
    rw [List.mem_singleton] at hx
    subst hx
    unfold schedStep
    omega
theorem rnd_u32 {v : List Int} (h : U32 v) (k x : Int) : U32 (rnd v k x) := by
  unfold rnd
  split
  · rename_i a b c d e f g z
    intro y hy
    simp only [List.mem_cons, List.not_mem_nil, or_false] at hy
    rcases hy with rfl | rfl | rfl | rfl | rfl | rfl | rfl | rfl
    · omega
    · exact h _ (by simp)
    · exact h _ (by simp)
    · exact h _ (by simp)
    · omega
    · exact h _ (by simp)
    · exact h _ (by simp)
    · exact h _ (by simp)
  · exact h
theorem rnds_u32 (ks ws : List Int) {v : List Int} (h : U32 v) (n : Nat) : U32 (rnds ks ws v n) := by
  induction n with
  | zero => exact h
  | succ n ih => exact rnd_u32 ih _ _
theorem addW_u32 (h v : List Int) : U32 (addW h v) := by
  intro x hx
  unfold addW at hx
  obtain ⟨p, _, rfl⟩ := List.mem_map.1 hx
  omega
theorem not_u32 {x : Int} (h0 : 0 ≤ x) (h1 : x ≤ 4294967295) : xo IntKind.u32.max x = (4294967295 - x) % 4294967296 := by
  unfold xo
  rw [show IntKind.u32.max = 4294967295 from rfl]
  unfold Go.bits
  have e : (BitVec.ofInt IntKind.u32.bits 4294967295 ^^^ BitVec.ofInt IntKind.u32.bits x).toNat = 4294967295 - x.toNat := by
    show (BitVec.ofInt 32 4294967295 ^^^ BitVec.ofInt 32 x).toNat = 4294967295 - x.toNat
    rw [show BitVec.ofInt 32 4294967295 = BitVec.allOnes 32 by decide, BitVec.allOnes_xor, BitVec.toNat_not, BitVec.toNat_ofInt]
    omega
  simp only [e]
  rw [IntKind.wrap_u32]
  omega
theorem rd_app_left {xs ys : List Int} {i : Nat} (h : i < xs.length) : rd (xs ++ ys) (i : Int) = rd xs (i : Int) := by
  rw [rd_lt (by rw [List.length_append]; omega), rd_lt h, List.getElem_append_left h]
theorem words_u32 : ∀ (b : List Int), Bytes b → U32 (wordsL b)
  | a :: b :: c :: d :: l, h => by
    intro x hx
    rw [wordsL] at hx
    rcases List.mem_cons.1 hx with rfl | hx
    · have ha := h a (by simp)
      have hb := h b (by simp)
      have hc := h c (by simp)
      have hd := h d (by simp)
      unfold unfour
      omega
    · exact words_u32 l (fun y hy => h y (by simp [hy])) x hx
  | [], _ => fun x hx => by simp [wordsL] at hx
  | [_], _ => fun x hx => by simp [wordsL] at hx
  | [_, _], _ => fun x hx => by simp [wordsL] at hx
  | [_, _, _], _ => fun x hx => by simp [wordsL] at hx
theorem words_at (b : List Int) (hb : Bytes b) (n : Nat) (hn : b.length = 4 * n) (i : Nat) (hi : i < n) : num ((b.take (4 * i + 4)).drop (4 * i)) = rd (wordsL b) (i : Int) ∧ 0 ≤ rd (wordsL b) (i : Int) ∧ rd (wordsL b) (i : Int) ≤ 4294967295 := by
  have hl := words_len n hn
  have e := bytes_words n hb hn
  have hu : U32 (wordsL b) := words_u32 b hb
  have hr := hu.rd (i : Int)
  refine ⟨?_, hr⟩
  have h2 := bytesL_at (wordsL b) i (by omega)
  rw [e] at h2
  rw [List.drop_take, show 4 * i + 4 - 4 * i = 4 by omega, h2, List.take_append_of_le_length (by rw [four_len]; omega), List.take_of_length_le (by rw [four_len]; omega)]
  rw [rd_lt (by omega)] at hr ⊢
  exact num_four hr.1 hr.2

theorem mod_sum6 (a b c d e f : Int) : (((((a + b) % 4294967296 + c) % 4294967296 + d) % 4294967296 + e) % 4294967296 + f % 4294967296) % 4294967296 = (a + b + c + d + e + f) % 4294967296 := by omega
theorem mod_sum5 (x a b c d e : Int) : (x + ((((a + b) % 4294967296 + c) % 4294967296 + d) % 4294967296 + e) % 4294967296) % 4294967296 = (x + (a + b + c + d + e)) % 4294967296 := by omega
theorem mod_sum4 (a b c d : Int) : (((a + b) % 4294967296 + c) % 4294967296 + d) % 4294967296 = (a + b + c + d) % 4294967296 := by omega
theorem refRounds_l2 (h ws : List Int) (hh : h.length = 8) (hw : ws.length = 64) (h0 : U32 h) : ∀ (d i : Nat) (v : List Int), 64 - i = d → i ≤ 64 → v.length = 8 → v = rnds KS ws h i →
    Ev (fun k => batonref02_Rounds.l2 k h ws (rd v 0) (rd v 1) (rd v 2) (rd v 3) (rd v 4) (rd v 5) (rd v 6) (rd v 7) KS (i : Int)) (addW h (rnds KS ws h 64)) := by
  intro d
  induction d with
  | zero =>
    intro i v hd hi hv hvs
    obtain rfl : i = 64 := by omega
    obtain ⟨a0, a1, a2, a3, a4, a5, a6, a7, rfl⟩ := eight hh
    obtain ⟨y0, y1, y2, y3, y4, y5, y6, y7, rfl⟩ := eight hv
    apply ev_succ
    rw [← hvs]
    exact ev_some _
  | succ d ih =>
    intro i v hd hi hv hvs
    have hi64 : i < 64 := by omega
    have hu : U32 v := by rw [hvs]; exact rnds_u32 _ _ h0 _
    have hnext : rnd v (rd KS (i : Int)) (rd ws (i : Int)) = rnds KS ws h (i + 1) := by rw [hvs]; rfl
    obtain ⟨a, b, c, d', e, f, g, z, rfl⟩ := eight hv
    have hue := hu e (by simp)
    have hua := hu a (by simp)
    have hws : wrap64 ((i : Int) + 1) = ((i + 1 : Nat) : Int) := by rw [w64 (by omega) (by omega)]; omega
    have := ih (i + 1) _ (by omega) (by omega) (by rw [rnd_length]; exact hv) hnext
    clear ih hnext hvs hu hd hi hh h0
    apply ev_succ
    have r0 : ∀ p q r s t u v w : Int, rd [p, q, r, s, t, u, v, w] 0 = p := fun _ _ _ _ _ _ _ _ => rfl
    have r1 : ∀ p q r s t u v w : Int, rd [p, q, r, s, t, u, v, w] 1 = q := fun _ _ _ _ _ _ _ _ => rfl
    have r2 : ∀ p q r s t u v w : Int, rd [p, q, r, s, t, u, v, w] 2 = r := fun _ _ _ _ _ _ _ _ => rfl
    have r3 : ∀ p q r s t u v w : Int, rd [p, q, r, s, t, u, v, w] 3 = s := fun _ _ _ _ _ _ _ _ => rfl
    have r4 : ∀ p q r s t u v w : Int, rd [p, q, r, s, t, u, v, w] 4 = t := fun _ _ _ _ _ _ _ _ => rfl
    have r5 : ∀ p q r s t u v w : Int, rd [p, q, r, s, t, u, v, w] 5 = u := fun _ _ _ _ _ _ _ _ => rfl
    have r6 : ∀ p q r s t u v w : Int, rd [p, q, r, s, t, u, v, w] 6 = v := fun _ _ _ _ _ _ _ _ => rfl
    have r7 : ∀ p q r s t u v w : Int, rd [p, q, r, s, t, u, v, w] 7 = w := fun _ _ _ _ _ _ _ _ => rfl
    simp only [batonref02_Rounds.l2, if_pos (show (i : Int) < 64 by omega), r0, r1, r2, r3, r4, r5, r6, r7]
    refine ev_bind (refRots_ev hue.1 hue.2 6 11 25 (by omega) (by omega) (by omega)) ?_
    rw [show (KS.length : Int) = 64 from rfl, show (ws.length : Int) = 64 by omega]
    simp only [if_pos (show (0 : Int) ≤ (i : Int) by omega), if_pos (show (i : Int) < 64 by omega)]
    refine ev_bind (refRots_ev hua.1 hua.2 2 13 22 (by omega) (by omega) (by omega)) ?_
    rw [hws]
    rw [show (rnd [a, b, c, d', e, f, g, z] (rd KS (i : Int)) (rd ws (i : Int))) = [(tt e f g z (rd KS (i : Int)) (rd ws (i : Int)) + uu a b c) % 4294967296, a, b, c, (d' + tt e f g z (rd KS (i : Int)) (rd ws (i : Int))) % 4294967296, e, f, g] from rfl] at this
    simp only [r0, r1, r2, r3, r4, r5, r6, r7, tt, uu, S1, S0, ch, maj, not_u32 hue.1 hue.2] at this
    simp only [mod_sum6, mod_sum5]
    simp only [xo, an] at this ⊢
    exact this
theorem refRounds_l1 (h l : List Int) (hh : h.length = 8) (hl : l.length = 16) (h0 : U32 h) (h1 : U32 l) : ∀ (d i : Nat), 48 - i = d → i ≤ 48 →
    Ev (fun k => batonref02_Rounds.l1 k h (sched l i) ((16 + i : Nat) : Int)) (comp h l) := by
  intro d
  induction d with
  | zero =>
    intro i hd hi
    obtain rfl : i = 48 := by omega
    apply ev_succ
    have hh8 : (h.length : Int) = 8 := by omega
    simp only [batonref02_Rounds.l1, if_neg (show ¬ (((16 + 48 : Nat) : Int) < 64) by omega), hh8, if_pos (show (0 : Int) < 8 by omega), if_pos (show (1 : Int) < 8 by omega), if_pos (show (2 : Int) < 8 by omega), if_pos (show (3 : Int) < 8 by omega), if_pos (show (4 : Int) < 8 by omega), if_pos (show (5 : Int) < 8 by omega), if_pos (show (6 : Int) < 8 by omega), if_pos (show (7 : Int) < 8 by omega)]
    refine ev_bind1 (a := KS) rfl ?_
    exact refRounds_l2 h (sched l 48) hh (by rw [sched_length, hl]) h0 64 0 h (by omega) (by omega) hh rfl
  | succ d ih =>
    intro i hd hi
    have hsl : (sched l i).length = 16 + i := by rw [sched_length, hl]
    have hu := sched_u32 h1 i
    have ih' := ih (i + 1) (by omega) (by omega)
    rw [sched] at ih'
    clear ih
    generalize sched l i = S at hsl hu ih' ⊢
    have hsI : (S.length : Int) = ((16 + i : Nat) : Int) := by omega
    have hstep : schedStep S = (rd S ((i : Nat) : Int) + sg0 (rd S ((i + 1 : Nat) : Int)) + rd S ((i + 9 : Nat) : Int) + sg1 (rd S ((i + 14 : Nat) : Int))) % 4294967296 := by
      unfold schedStep
      rw [show S.length - 16 = i by omega, show S.length - 15 = i + 1 by omega, show S.length - 7 = i + 9 by omega, show S.length - 2 = i + 14 by omega]
    rw [hstep] at ih'
    clear hstep
    have cc0 : ((16 + i : Nat) : Int) < 64 := by omega
    have cc1 : (0 : Int) ≤ ((i + 1 : Nat) : Int) := by omega
    have cc2 : ((i + 1 : Nat) : Int) < ((16 + i : Nat) : Int) := by omega
    have cc3 : (0 : Int) ≤ ((i + 14 : Nat) : Int) := by omega
    have cc4 : ((i + 14 : Nat) : Int) < ((16 + i : Nat) : Int) := by omega
    have cc5 : (0 : Int) ≤ ((i : Nat) : Int) := by omega
    have cc6 : ((i : Nat) : Int) < ((16 + i : Nat) : Int) := by omega
    have cc7 : (0 : Int) ≤ ((i + 9 : Nat) : Int) := by omega
    have cc8 : ((i + 9 : Nat) : Int) < ((16 + i : Nat) : Int) := by omega
    have cc9 : S.length < 35184372088832 := by omega
    have w15 : wrap64 (((16 + i : Nat) : Int) - 15) = ((i + 1 : Nat) : Int) := by rw [w64 (by omega) (by omega)]; omega
    have w2 : wrap64 (((16 + i : Nat) : Int) - 2) = ((i + 14 : Nat) : Int) := by rw [w64 (by omega) (by omega)]; omega
    have w16 : wrap64 (((16 + i : Nat) : Int) - 16) = ((i : Nat) : Int) := by rw [w64 (by omega) (by omega)]; omega
    have w7 : wrap64 (((16 + i : Nat) : Int) - 7) = ((i + 9 : Nat) : Int) := by rw [w64 (by omega) (by omega)]; omega
    have hws : wrap64 (((16 + i : Nat) : Int) + 1) = ((16 + (i + 1) : Nat) : Int) := by rw [w64 (by omega) (by omega)]; omega
    have u15 := hu.rd ((i + 1 : Nat) : Int)
    have u2 := hu.rd ((i + 14 : Nat) : Int)
    apply ev_succ
    simp only [batonref02_Rounds.l1, if_pos cc0, w15, w2, w16, w7, hws, hsI, if_pos cc1, if_pos cc2, if_pos cc3, if_pos cc4, if_pos cc5, if_pos cc6, if_pos cc7, if_pos cc8, if_pos cc9]
    refine ev_bind (refRot_ev' u15.1 u15.2 7 (by decide)) ?_
    refine ev_bind (refRot_ev' u15.1 u15.2 18 (by decide)) ?_
    refine ev_bind (refShr_ev u15.1 u15.2 3 (by decide)) ?_
    refine ev_bind (refRot_ev' u2.1 u2.2 17 (by decide)) ?_
    refine ev_bind (refRot_ev' u2.1 u2.2 19 (by decide)) ?_
    refine ev_bind (refShr_ev u2.1 u2.2 10 (by decide)) ?_
    simp only [mod_sum4]
    exact ih'
theorem refRounds_l0 (h b : List Int) (hh : h.length = 8) (hb : Bytes b) (h64 : b.length = 64) (h0 : U32 h) : ∀ (d i : Nat), 16 - i = d → i ≤ 16 →
    Ev (fun k => batonref02_Rounds.l0 k h b ((wordsL b).take i) (i : Int)) (cmpB h b) := by
  have hl := words_len 16 (b := b) (by omega)
  intro d
  induction d with
  | zero =>
    intro i hd hi
    obtain rfl : i = 16 := by omega
    apply ev_succ
    simp only [batonref02_Rounds.l0, if_neg (show ¬ (((16 : Nat) : Int) < 16) by omega)]
    rw [List.take_of_length_le (by omega)]
    exact refRounds_l1 h (wordsL b) hh hl h0 (words_u32 b hb) 48 0 (by omega) (by omega)
  | succ d ih =>
    intro i hd hi
    have hlt : i < 16 := by omega
    have w4 : wrap64 (4 * (i : Int)) = ((4 * i : Nat) : Int) := by rw [w64 (by omega) (by omega)]; omega
    have w8 : wrap64 (((4 * i : Nat) : Int) + 4) = ((4 * i + 4 : Nat) : Int) := by rw [w64 (by omega) (by omega)]; omega
    have hws : wrap64 ((i : Int) + 1) = ((i + 1 : Nat) : Int) := by rw [w64 (by omega) (by omega)]; omega
    obtain ⟨e1, e2, e3⟩ := words_at b hb 16 (by omega) i hlt
    have htl : ((wordsL b).take i).length = i := by rw [List.length_take]; omega
    apply ev_succ
    simp only [batonref02_Rounds.l0, if_pos (show (i : Int) < 16 by omega), w4, w8, hws, Int.toNat_natCast, if_pos (show (0 : Int) ≤ ((4 * i : Nat) : Int) by omega), if_pos (show ((4 * i : Nat) : Int) ≤ ((4 * i + 4 : Nat) : Int) by omega), if_pos (show ((4 * i + 4 : Nat) : Int) ≤ (b.length : Int) by omega), htl, if_pos (show i < 35184372088832 by omega)]
    refine ev_bind (refGet_ev _ (fun x hx => hb x (List.mem_of_mem_take (List.mem_of_mem_drop hx))) (by rw [List.length_drop, List.length_take]; omega)) ?_
    rw [e1]
    have e4 : (wordsL b).take i ++ [rd (wordsL b) (i : Int) % 4294967296] = (wordsL b).take (i + 1) := by
      rw [List.take_succ_eq_append_getElem (by omega), ← rd_lt (by omega), Int.emod_eq_of_lt e2 (by omega)]
    rw [e4]
    exact ih (i + 1) (by omega) (by omega)
theorem refRounds_ev (h b : List Int) (hh : h.length = 8) (hb : Bytes b) (h64 : b.length = 64) (h0 : U32 h) : Ev (fun k => batonref02_Rounds.f k h b) (cmpB h b) := by
  unfold batonref02_Rounds.f
  exact refRounds_l0 h b hh hb h64 h0 16 0 (by omega) (by omega)
end Go.Proofs.Ythpkbamhpmgffaa.Sha
