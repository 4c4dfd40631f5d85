/- Hand-written walks and plain lemmas of sha, hmac, keys: what each Go function comes to. No condition. -/
import Derived.Test.YthpkbamhpmgffaaShaP
namespace Go.Proofs.Ythpkbamhpmgffaa.Sha
open Go.RowKit Go.Proofs.YthpkbamhpmgffaaW.Hand Go.Proofs.YthpkbamhpmgffaaW.PrintWords Go.Proofs.YthpkbamhpmgffaaW.PrintLast Go.Proofs.YthpkbamhpmgffaaW.PrintMore Go.Proofs.Ythpkbamhpmgffaa.PF02 Go.Proofs.Ythpkbamhpmgffaa.Base Go.Proofs.Ythpkbamhpmgffaa.LF02
set_option linter.unusedVariables false
set_option linter.unusedSimpArgs false

theorem refPad_l2 (x3 : List Int) (n : Nat) (hn : n ≤ 8000000000000) (i : Nat) (hi : i ≤ 7) (hl : x3.length ≤ 1000) : ∀ (d j : Nat), i - j = d → j ≤ i → ∀ r, Ev (fun k => batonref02_Pad.l1 k (x3 ++ [(n : Int) / 2 ^ (8 * i) % 256]) (n : Int) ((i : Int) - 1)) r →
    Ev (fun k => batonref02_Pad.l2 k x3 (n : Int) (i : Int) ((n : Int) / 2 ^ (8 * j)) (j : Int)) r := by
  intro d
  induction d with
  | zero =>
    intro j hd hj r hr
    obtain rfl : j = i := by omega
    have h0 : 0 ≤ (n : Int) / 2 ^ (8 * j) := Int.ediv_nonneg (by omega) (by have := pow2_pos (8 * j); omega)
    have e : Int.tmod ((n : Int) / 2 ^ (8 * j)) 256 % 256 = (n : Int) / 2 ^ (8 * j) % 256 := by rw [Int.tmod_eq_emod_of_nonneg h0]; omega
    have hw : wrap64 ((j : Int) - 1) = (j : Int) - 1 := by rw [w64 (by omega) (by omega)]
    apply ev_succ
    simp only [batonref02_Pad.l2, if_neg (show ¬ ((j : Int) < (j : Int)) by omega), if_pos (show x3.length < 140737488355328 by omega), e, hw]
    exact hr
  | succ d ih =>
    intro j hd hj r hr
    have h0 : 0 ≤ (n : Int) / 2 ^ (8 * j) := Int.ediv_nonneg (by omega) (by have := pow2_pos (8 * j); omega)
    have h1 : (n : Int) / 2 ^ (8 * j) ≤ (n : Int) := Int.ediv_le_self _ (by omega)
    have e : IntKind.u64.wrap (Int.tdiv ((n : Int) / 2 ^ (8 * j)) 256) = (n : Int) / 2 ^ (8 * (j + 1)) := by
      rw [Int.tdiv_eq_ediv_of_nonneg h0, u64 (by omega) (by omega), show 8 * (j + 1) = 8 * j + 8 by omega, Int.pow_add, ← Int.ediv_ediv_of_nonneg (by have := pow2_pos (8 * j); omega)]
      rfl
    have hw : wrap64 ((j : Int) + 1) = ((j + 1 : Nat) : Int) := by rw [w64 (by omega) (by omega)]; omega
    apply ev_succ
    simp only [batonref02_Pad.l2, if_pos (show (j : Int) < (i : Int) by omega), e, hw]
    exact ih (j + 1) (by omega) (by omega) r hr
theorem refPad_l1 (n : Nat) (hn : n ≤ 8000000000000) : ∀ (s : Nat) (x3 : List Int), s ≤ 8 → x3.length + s ≤ 1000 → Ev (fun k => batonref02_Pad.l1 k x3 (n : Int) ((s : Int) - 1)) (x3 ++ be s (n : Int)) := by
  intro s
  induction s with
  | zero =>
    intro x3 _ _
    apply ev_succ
    simp only [batonref02_Pad.l1]
    exact ev_eq (ev_some _) (by simp [be])
  | succ s ih =>
    intro x3 hs hl
    apply ev_succ
    simp only [batonref02_Pad.l1]
    rw [show ((s + 1 : Nat) : Int) - 1 = (s : Int) by omega]
    simp only [ge_iff_le, if_pos (show (0 : Int) ≤ (s : Int) by omega)]
    have := refPad_l2 x3 n hn s (by omega) (by omega) s 0 (by omega) (by omega) _ (ih (x3 ++ [(n : Int) / 2 ^ (8 * s) % 256]) (by omega) (by rw [List.length_append, List.length_singleton]; omega))
    rw [show 8 * 0 = 0 from rfl, Int.pow_zero, Int.ediv_one] at this
    refine ev_eq this ?_
    rw [List.append_assoc]
    rfl
theorem refPad_l0 (n : Nat) (hn : n ≤ 1000000000000) : ∀ (d j : Nat), (64 - (n + 9) % 64) % 64 - j = d → j ≤ (64 - (n + 9) % 64) % 64 → Ev (fun k => batonref02_Pad.l0 k (n : Int) (128 :: List.replicate j 0)) (padL n) := by
  intro d
  induction d with
  | zero =>
    intro j hd hj
    have hl : (128 :: List.replicate j (0 : Int)).length = j + 1 := by simp
    have hj64 : j < 64 := by omega
    have e0 : (64 - (n + 9) % 64) % 64 = j := by omega
    have e1 : wrap64 ((n : Int) + ((j + 1 : Nat) : Int)) = ((n + j + 1 : Nat) : Int) := by rw [w64 (by omega) (by omega)]; omega
    have e2 : Int.tmod ((n + j + 1 : Nat) : Int) 64 = 56 := by rw [Int.tmod_eq_emod_of_nonneg (by omega)]; omega
    have e3 : IntKind.u64.wrap (IntKind.u64.wrap (n : Int) * 8) = ((8 * n : Nat) : Int) := by rw [u64 (x := (n : Int)) (by omega) (by omega), u64 (by omega) (by omega)]; omega
    apply ev_succ
    simp only [batonref02_Pad.l0, hl, e1, e2, if_true, e3]
    have := refPad_l1 (8 * n) (by omega) 8 (128 :: List.replicate j 0) (by omega) (by rw [hl]; omega)
    refine ev_eq this ?_
    unfold padL
    rw [e0, show ((8 * n : Nat) : Int) = 8 * (n : Int) by omega]
    rfl
  | succ d ih =>
    intro j hd hj
    have hl : (128 :: List.replicate j (0 : Int)).length = j + 1 := by simp
    have hj64 : j + 1 < 140737488355328 := by omega
    have e1 : wrap64 ((n : Int) + ((j + 1 : Nat) : Int)) = ((n + j + 1 : Nat) : Int) := by rw [w64 (by omega) (by omega)]; omega
    have e2 : ¬ Int.tmod ((n + j + 1 : Nat) : Int) 64 = 56 := by rw [Int.tmod_eq_emod_of_nonneg (by omega)]; omega
    have := ih (j + 1) (by omega) (by omega)
    rw [List.replicate_succ'] at this
    apply ev_succ
    simp only [batonref02_Pad.l0, hl, e1, if_neg e2, if_pos hj64]
    exact this
theorem refPad_ev (n : Nat) (hn : n ≤ 1000000000000) : Ev (fun k => batonref02_Pad.f k (n : Int)) (padL n) := by
  unfold batonref02_Pad.f
  exact refPad_l0 n hn ((64 - (n + 9) % 64) % 64) 0 (by omega) (by omega)
theorem FS_u32 : U32 FS := by
  unfold U32 FS
  decide
theorem eat_u32 (l : List Int) (i : Nat) : U32 (eat FS l i) := by
  cases i with
  | zero => exact FS_u32
  | succ i => exact addW_u32 _ _
theorem tdm {x : Int} (h0 : 0 ≤ x) (h1 : x ≤ 4294967295) (d : Int) (hd : 0 < d) : Int.tdiv x d % 4294967296 % 256 = x / d % 256 := by
  rw [Int.tdiv_eq_ediv_of_nonneg h0]
  have e1 : 0 ≤ x / d := Int.ediv_nonneg h0 (by omega)
  have e2 : x / d ≤ x := Int.ediv_le_self d h0
  omega
theorem tmm {x : Int} (h0 : 0 ≤ x) : Int.tmod x 256 % 256 = x % 256 := by
  rw [Int.tmod_eq_emod_of_nonneg h0]
  omega
theorem refSum_l1 (h : List Int) (hh : h.length = 8) (h0 : U32 h) : ∀ (d j : Nat), 8 - j = d → j ≤ 8 → Ev (fun k => batonref02_Sum.l1 k h (bytesL (h.take j)) (j : Int)) (bytesL h) := by
  intro d
  induction d with
  | zero =>
    intro j hd hj
    obtain rfl : j = 8 := by omega
    apply ev_succ
    simp only [batonref02_Sum.l1, if_neg (show ¬ (((8 : Nat) : Int) < 8) by omega)]
    rw [List.take_of_length_le (by omega)]
    exact ev_some _
  | succ d ih =>
    intro j hd hj
    have hlt : j < h.length := by omega
    have hx := h0.rd (j : Int)
    have hr := rd_lt hlt
    have hbl : (bytesL (h.take j)).length = 4 * j := by rw [bytesL_len, List.length_take]; omega
    have cc0 : (j : Int) < 8 := by omega
    have cc1 : (0 : Int) ≤ (j : Int) := by omega
    have cc2 : (j : Int) < (h.length : Int) := by omega
    have e : bytesL (h.take j) ++ [rd h (j : Int) / 16777216 % 256, rd h (j : Int) / 65536 % 256, rd h (j : Int) / 256 % 256, rd h (j : Int) % 256] = bytesL (h.take (j + 1)) := by
      rw [List.take_succ_eq_append_getElem hlt, ← hr]
      unfold bytesL
      rw [List.flatMap_append]
      rfl
    have cl : (bytesL (h.take j)).length + [rd h (j : Int) / 16777216 % 256, rd h (j : Int) / 65536 % 256, rd h (j : Int) / 256 % 256, rd h (j : Int) % 256].length < 140737488355328 := by rw [hbl]; simp; omega
    have hw : wrap64 ((j : Int) + 1) = ((j + 1 : Nat) : Int) := by rw [w64 (by omega) (by omega)]; omega
    have t1 := tdm hx.1 hx.2 16777216 (by omega)
    have t2 := tdm hx.1 hx.2 65536 (by omega)
    have t3 := tdm hx.1 hx.2 256 (by omega)
    have t4 := tmm hx.1
    apply ev_succ
    simp only [batonref02_Sum.l1, if_pos cc0, if_pos cc1, if_pos cc2, t1, t2, t3, t4, Option.bind_some, if_pos cl, e, hw]
    exact ih (j + 1) (by omega) (by omega)
theorem refSum_l0 (all : List Int) (hb : Bytes all) (m : Nat) (hm : all.length = 64 * m) (hl : all.length ≤ 1000000000000) : ∀ (d j : Nat), m - j = d → j ≤ m → Ev (fun k => batonref02_Sum.l0 k all (eat FS all j) ((64 * j : Nat) : Int)) (bytesL (eat FS all m)) := by
  intro d
  induction d with
  | zero =>
    intro j hd hj
    obtain rfl : j = m := by omega
    have cc : ¬ (((64 * j : Nat) : Int) < (all.length : Int)) := by omega
    apply ev_succ
    simp only [batonref02_Sum.l0, if_neg cc]
    exact refSum_l1 _ (by rw [eat_length]; rfl) (eat_u32 _ _) 8 0 (by omega) (by omega)
  | succ d ih =>
    intro j hd hj
    have cc0 : ((64 * j : Nat) : Int) < (all.length : Int) := by omega
    have cc1 : (0 : Int) ≤ ((64 * j : Nat) : Int) := by omega
    have cc2 : ((64 * j : Nat) : Int) ≤ ((64 * j + 64 : Nat) : Int) := by omega
    have cc3 : ((64 * j + 64 : Nat) : Int) ≤ (all.length : Int) := by omega
    have hdt : (all.take (64 * j + 64)).drop (64 * j) = (all.drop (64 * j)).take 64 := by rw [List.drop_take]; congr 1; omega
    have hlen : ((all.drop (64 * j)).take 64).length = 64 := by rw [List.length_take, List.length_drop]; omega
    have hw : wrap64 (((64 * j : Nat) : Int) + 64) = ((64 * j + 64 : Nat) : Int) := by rw [w64 (by omega) (by omega)]; omega
    apply ev_succ
    simp only [batonref02_Sum.l0, if_pos cc0, if_pos cc1, hw, if_pos cc2, if_pos cc3, Int.toNat_natCast, hdt]
    refine ev_bind (refRounds_ev _ _ (by rw [eat_length]; rfl) (fun x hx => hb x (List.mem_of_mem_drop (List.mem_of_mem_take hx))) hlen (eat_u32 _ _)) ?_
    exact ih (j + 1) (by omega) (by omega)
theorem refSum_ev (b : List Int) (hb : Bytes b) (hl : b.length ≤ 100000000000) : Ev (fun k => batonref02_Sum.f k b) (shaL b) := by
  unfold batonref02_Sum.f
  have hp := padL_length b.length
  have c1 : ([] : List Int).length + b.length < 140737488355328 := by simp; omega
  have c2 : b.length + (padL b.length).length < 140737488355328 := by omega
  simp only [Option.bind_some, if_pos c1]
  refine ev_bind (refPad_ev b.length (by omega)) ?_
  simp only [List.nil_append, if_pos c2]
  refine ev_bind1 (a := FS) rfl ?_
  have hal : (b ++ padL b.length).length = 64 * ((b ++ padL b.length).length / 64) := by rw [List.length_append, hp]; omega
  exact refSum_l0 (b ++ padL b.length) (hb.append (padL_bytes _)) _ hal (by rw [List.length_append, hp]; omega) ((b ++ padL b.length).length / 64) 0 (by omega) (by omega)
end Go.Proofs.Ythpkbamhpmgffaa.Sha
