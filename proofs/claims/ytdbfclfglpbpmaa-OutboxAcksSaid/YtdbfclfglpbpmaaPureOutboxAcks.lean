/- The law OutboxAcks, of plain lists: Ack and Chunk agree with the reference. No condition beside the sizes that the row itself gives. -/
import Derived.Test.YtdbfclfglpbpmaaLF31A
namespace Go.Proofs.Ytdbfclfglpbpmaa.Pure
open Go.RowKit Go.Proofs.Ytdbfclfglpbpmaa.Base Go.Proofs.YtdbfclfglpbpmaaW.PrintWords Go.Proofs.YtdbfclfglpbpmaaW.PrintMore Go.Proofs.Ytdbfclfglpbpmaa.PF31A
set_option linter.unusedVariables false
set_option linter.unusedSimpArgs false
open Go.Proofs.Ytdbfclfglpbpmaa.LF31A

theorem rd140 (l : List S140) (i : Nat) (h : i < l.length) : rd_T140 l (i : Int) = l[i] := by
  unfold rd_T140
  simp [List.getD_eq_getElem?_getD, h]
def keysL (f : Int) : List Int → List S140
  | [] => []
  | x :: b => ⟨f, x⟩ :: keysL (f + 1) b
theorem keysL_len (f : Int) (b : List Int) : (keysL f b).length = b.length := by
  induction b generalizing f with
  | nil => rfl
  | cons x b ih => simp [keysL, ih]
theorem keysL_get (b : List Int) : ∀ (f : Int) (i : Nat) (h : i < b.length), (keysL f b)[i]'(by rw [keysL_len]; exact h) = ⟨f + (i : Int), b[i]⟩ := by
  induction b with
  | nil => intro f i h; simp at h
  | cons x b ih =>
    intro f i h
    cases i with
    | zero => simp [keysL]
    | succ i =>
      simp only [keysL, List.getElem_cons_succ]
      rw [ih (f + 1) i (by simpa using h)]
      simp only [S140.mk.injEq, and_true]
      omega
theorem Keys_l0 (f : Int) (b : List Int) (h0 : 0 ≤ f) (h1 : f ≤ 281474976710656) (hl : b.length ≤ 1000000) : ∀ (d i : Nat), b.length - i = d → i ≤ b.length → Ev (fun k => batonref31_Keys.l0 k f b ((keysL f b).take i) (i : Int)) (keysL f b) := by
  intro d
  induction d with
  | zero =>
    intro i hd hi
    obtain rfl : i = b.length := by omega
    apply ev_succ
    simp only [batonref31_Keys.l0, if_neg (show ¬ ((b.length : Int) < (b.length : Int)) by omega)]
    rw [List.take_of_length_le (by rw [keysL_len]; exact Nat.le_refl _)]
    exact ev_some _
  | succ d ih =>
    intro i hd hi
    have hlt : i < b.length := by omega
    have hlt' : i < (keysL f b).length := by rw [keysL_len]; exact hlt
    have hw : wrap64 ((i : Int) + 1) = ((i + 1 : Nat) : Int) := by rw [w64 (by omega) (by omega)]; omega
    have hw2 : wrap64 (f + (i : Int)) = f + (i : Int) := w64 (by omega) (by omega)
    have e : (keysL f b).take i ++ [(⟨f + (i : Int), b[i]⟩ : S140)] = (keysL f b).take (i + 1) := by rw [List.take_succ_eq_append_getElem hlt', keysL_get b f i hlt]
    apply ev_succ
    simp only [batonref31_Keys.l0, if_pos (show (i : Int) < (b.length : Int) by omega), if_pos (show (0 : Int) ≤ (i : Int) by omega), rd_lt hlt, hw, hw2, if_pos (show ((keysL f b).take i).length < 8796093022208 by rw [List.length_take, keysL_len]; omega), e]
    exact ih (i + 1) (by omega) (by omega)
theorem keys_ev (f : Int) (b : List Int) (h0 : 0 ≤ f) (h1 : f ≤ 281474976710656) (hl : b.length ≤ 1000000) : Ev (fun k => batonlaw31_keys.f k f b) (keysL f b) := by
  unfold batonlaw31_keys.f
  refine ev_bind (a := keysL f b) ?_ (ev_some _)
  unfold batonref31_Keys.f
  exact Keys_l0 f b h0 h1 hl b.length 0 (by omega) (by omega)
theorem keysL_above (b : List Int) : ∀ (f n : Int), (keysL f b).filter (fun x => decide (x.f0 ≥ n)) = keysL (if n ≤ f then f else n) (b.drop (n - f).toNat) := by
  induction b with
  | nil => intro f n; simp [keysL]
  | cons x b ih =>
    intro f n
    by_cases c : n ≤ f
    · have e : (n - f).toNat = 0 := by omega
      have ih' := ih (f + 1) n
      rw [if_pos (by omega), show (n - (f + 1)).toNat = 0 by omega] at ih'
      rw [if_pos c, e]
      simp only [keysL, List.drop_zero] at ih' ⊢
      rw [List.filter_cons, if_pos (by simpa using c), ih']
    · have e : (n - f).toNat = (n - (f + 1)).toNat + 1 := by omega
      rw [if_neg c, e, List.drop_succ_cons]
      simp only [keysL]
      rw [List.filter_cons, if_neg (by simpa using c), ih (f + 1) n]
      by_cases c2 : n ≤ f + 1
      · rw [if_pos c2, show f + 1 = n by omega]
      · rw [if_neg c2]
theorem Above_l0 (l : List S140) (n : Int) (hl : l.length ≤ 1000000) : ∀ (d i : Nat), l.length - i = d → i ≤ l.length → Ev (fun k => batonref31_Above.l0 k l n ((l.take i).filter (fun x => decide (x.f0 ≥ n))) (i : Int)) (l.filter (fun x => decide (x.f0 ≥ n))) := by
  intro d
  induction d with
  | zero =>
    intro i hd hi
    obtain rfl : i = l.length := by omega
    apply ev_succ
    simp only [batonref31_Above.l0, if_neg (show ¬ ((l.length : Int) < (l.length : Int)) by omega), List.take_length]
    exact ev_some _
  | succ d ih =>
    intro i hd hi
    have hlt : i < l.length := by omega
    have hw : wrap64 ((i : Int) + 1) = ((i + 1 : Nat) : Int) := by rw [w64 (by omega) (by omega)]; omega
    have hfl : ((l.take i).filter (fun x => decide (x.f0 ≥ n))).length < 8796093022208 := by
      have := List.length_filter_le (fun x : S140 => decide (x.f0 ≥ n)) (l.take i)
      rw [List.length_take] at this
      omega
    have hs : (l.take (i + 1)).filter (fun x => decide (x.f0 ≥ n)) = (l.take i).filter (fun x => decide (x.f0 ≥ n)) ++ (if l[i].f0 ≥ n then [l[i]] else []) := by
      rw [List.take_succ_eq_append_getElem hlt, List.filter_append]
      congr 1
      by_cases c : l[i].f0 ≥ n
      · simp [c]
      · simp [c]
    apply ev_succ
    simp only [batonref31_Above.l0, if_pos (show (i : Int) < (l.length : Int) by omega), if_pos (show (0 : Int) ≤ (i : Int) by omega), rd140 l i hlt, hw, if_pos hfl]
    by_cases c : l[i].f0 ≥ n
    · rw [if_pos c] at hs
      simp only [if_pos c]
      rw [← hs]
      exact ih (i + 1) (by omega) (by omega)
    · rw [if_neg c, List.append_nil] at hs
      simp only [if_neg c]
      rw [← hs]
      exact ih (i + 1) (by omega) (by omega)
theorem Above_ev (l : List S140) (n : Int) (hl : l.length ≤ 1000000) : Ev (fun k => batonref31_Above.f k l n) (l.filter (fun x => decide (x.f0 ≥ n))) := by
  unfold batonref31_Above.f
  have := Above_l0 l n hl l.length 0 (by omega) (by omega)
  simpa using this
theorem SameK_l0 (l : List S140) (hl : l.length ≤ 1000000) : ∀ (d i : Nat), l.length - i = d → i ≤ l.length → Ev (fun k => batonref31_Same.l0 k l l (i : Int)) true := by
  intro d
  induction d with
  | zero =>
    intro i hd hi
    obtain rfl : i = l.length := by omega
    apply ev_succ
    simp only [batonref31_Same.l0, if_neg (show ¬ ((l.length : Int) < (l.length : Int)) by omega)]
    exact ev_some _
  | succ d ih =>
    intro i hd hi
    have hlt : i < l.length := by omega
    have hw : wrap64 ((i : Int) + 1) = ((i + 1 : Nat) : Int) := by rw [w64 (by omega) (by omega)]; omega
    apply ev_succ
    simp only [batonref31_Same.l0, if_pos (show (i : Int) < (l.length : Int) by omega), if_pos (show (0 : Int) ≤ (i : Int) by omega), hw, beq_self_eq_true, Bool.not_true, Bool.or_self, Bool.false_eq_true, if_false]
    exact ih (i + 1) (by omega) (by omega)
theorem SameK_ev (l : List S140) (hl : l.length ≤ 1000000) : Ev (fun k => batonref31_Same.f k l l) true := by
  simp only [batonref31_Same.f, if_true]
  exact SameK_l0 l hl l.length 0 (by omega) (by omega)
theorem OutboxAcks : batonlaw31_OutboxAcks.Pure := by
  intro f b n hf _ hn
  have bf := bounds_i64 hf
  have bn := bounds_i64 hn
  refine Ev.rounds ?_
  unfold batonlaw31_OutboxAcks.f
  refine ev_bind awake31 ?_
  simp only [if_true]
  by_cases c0 : f ≥ 0
  · by_cases c1 : f ≤ 281474976710656
    · by_cases c2 : (b.length : Int) ≤ 256
      · have e1 : wrap64 (f + (b.length : Int)) = f + (b.length : Int) := w64 (by omega) (by omega)
        by_cases c3 : f + (b.length : Int) ≤ 281474976710656
        · simp only [batonlaw31_right.f, if_pos c0, if_pos c1, if_pos c2, e1, decide_eq_true c3, Option.bind_some, if_true]
          have hm : mn (b.length : Int) 16 = ((min b.length 16 : Nat) : Int) := by unfold mn; split <;> omega
          have hml : min b.length 16 ≤ b.length := Nat.min_le_left ..
          have hch : outbox_Chunk.f f b = some (f, b.take (min b.length 16)) := by
            simp only [outbox_Chunk.f, hm, if_pos (show (0 : Int) ≤ ((min b.length 16 : Nat) : Int) by omega), if_pos (show ((min b.length 16 : Nat) : Int) ≤ (b.length : Int) by omega), Int.toNat_natCast, slices_Clone_byte_byte.f]
            rw [if_pos (show (b.take (min b.length 16)).length < 140737488355328 by rw [List.length_take]; omega)]
            rfl
          have htl : (b.take (min b.length 16)).length = min b.length 16 := by rw [List.length_take]; omega
          simp only [hch, Option.bind_some, Ack_at f b n c0 c1 (by omega), if_true, htl, hm, if_pos (show (0 : Int) ≤ ((min b.length 16 : Nat) : Int) by omega), if_pos (show ((min b.length 16 : Nat) : Int) ≤ (b.length : Int) by omega), Int.toNat_natCast]
          refine ev_bind (Same_ev _ _ (by rw [htl]; omega)) ?_
          rw [decide_eq_true rfl]
          apply ev_succ
          simp only [batonlaw31_OutboxAcks.j0, Bool.not_true, Bool.false_eq_true, if_false, e1]
          by_cases c4 : n > f + (b.length : Int)
          · simp only [if_pos c4, if_true]
            refine ev_bind (Same_ev b b (by omega)) ?_
            exact ev_eq (ev_some _) (by simp)
          · by_cases c5 : n ≤ f
            · have hx : mx f n = f := by unfold mx; rw [if_neg (by omega)]
              have hk := keysL_above b f n
              rw [if_pos c5, show (n - f).toNat = 0 by omega, List.drop_zero] at hk
              simp only [if_neg c4, if_pos c5, if_true, hx]
              refine ev_bind (keys_ev f b c0 c1 (by omega)) ?_
              refine ev_bind (keys_ev f b c0 c1 (by omega)) ?_
              refine ev_bind (Above_ev _ n (by rw [keysL_len]; omega)) ?_
              rw [hk]
              exact ev_bind (SameK_ev _ (by rw [keysL_len]; omega)) (ev_some _)
            · have hx : mx f n = n := by unfold mx; rw [if_pos (by omega)]
              have hk := keysL_above b f n
              rw [if_neg c5] at hk
              simp only [if_neg c4, if_neg c5, if_true, hx]
              refine ev_bind (keys_ev n _ (by omega) (by omega) (by rw [List.length_drop]; omega)) ?_
              refine ev_bind (keys_ev f b c0 c1 (by omega)) ?_
              refine ev_bind (Above_ev _ n (by rw [keysL_len]; omega)) ?_
              rw [hk]
              exact ev_bind (SameK_ev _ (by rw [keysL_len, List.length_drop]; omega)) (ev_some _)
        · simp only [batonlaw31_right.f, if_pos c0, if_pos c1, if_pos c2, e1, decide_eq_false c3, Option.bind_some, Bool.false_eq_true, if_false]
          exact ev_some _
      · simp only [batonlaw31_right.f, if_pos c0, if_pos c1, if_neg c2, Option.bind_some, Bool.false_eq_true, if_false]
        exact ev_some _
    · simp only [batonlaw31_right.f, if_pos c0, if_neg c1, Option.bind_some, Bool.false_eq_true, if_false]
      exact ev_some _
  · simp only [batonlaw31_right.f, if_neg c0, Option.bind_some, Bool.false_eq_true, if_false]
    exact ev_some _

end Go.Proofs.Ytdbfclfglpbpmaa.Pure
