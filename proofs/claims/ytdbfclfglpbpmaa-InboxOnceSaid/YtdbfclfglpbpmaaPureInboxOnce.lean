/- The law InboxOnce, of plain lists: of whatever was typed, whichever parts come in whatever order, what is taken is a beginning of it, up to just ahead of the first that never came or came too early. No condition beside the sizes that the row itself gives. -/
import Derived.Test.YtdbfclfglpbpmaaLF32O
namespace Go.Proofs.Ytdbfclfglpbpmaa.Pure
open Go.RowKit Go.Proofs.Ytdbfclfglpbpmaa.Base Go.Proofs.YtdbfclfglpbpmaaW.PrintWords Go.Proofs.YtdbfclfglpbpmaaW.PrintMore Go.Proofs.Ytdbfclfglpbpmaa.PF32O
set_option linter.unusedVariables false
set_option linter.unusedSimpArgs false
open Go.Proofs.Ytdbfclfglpbpmaa.LF32O

theorem rd71 (l : List S71) (i : Nat) (h : i < l.length) : rd_T71 l (i : Int) = l[i] := by
  unfold rd_T71
  simp [List.getD_eq_getElem?_getD, h]
theorem rdB (l : List Bool) (i : Nat) : rdOf false l (i : Int) = l.getD i false := by
  unfold rdOf
  simp
/-- Marked from a place up to another one. -/
theorem Once_l1 (T : List Int) (P : List S71) (got : List Int) (i : Int) (te : Nat) (out : List Int) (n : Int) (R : List S142) (hto : te ≤ 300) : ∀ (d k : Nat) (came : List Bool), te - k = d → k ≤ te → came.length = 300 →
    ∃ came' : List Bool, came'.length = 300 ∧ (∀ m, came'.getD m false = (came.getD m false || (decide (k ≤ m) && decide (m < te)))) ∧ ∀ r, Ev (fun q => batonlaw32_InboxOnce.j5 q T P got came' i out n R) r → Ev (fun q => batonlaw32_InboxOnce.l1 q T P got came i (te : Int) out false (k : Int) n R) r := by
  intro d
  induction d with
  | zero =>
    intro k came hd hk hc
    obtain rfl : k = te := by omega
    refine ⟨came, hc, fun m => ?_, fun r hr => ?_⟩
    · have : (decide (k ≤ m) && decide (m < k)) = false := by
        by_cases h : k ≤ m
        · rw [decide_eq_false (show ¬ m < k by omega), Bool.and_false]
        · rw [decide_eq_false h, Bool.false_and]
      rw [this, Bool.or_false]
    · apply ev_succ
      simp only [batonlaw32_InboxOnce.l1, if_neg (show ¬ ((k : Int) < (k : Int)) by omega)]
      exact hr
  | succ d ih =>
    intro k came hd hk hc
    obtain ⟨came', h1, h2, h3⟩ := ih (k + 1) (came.set k true) (by omega) (by omega) (by simp [hc])
    refine ⟨came', h1, fun m => ?_, fun r hr => ?_⟩
    · rw [h2 m]
      by_cases e : m = k
      · subst e
        have : (came.set m true).getD m false = true := by
          rw [List.getD_eq_getElem?_getD, List.getElem?_set_self (by omega)]
          rfl
        rw [this, decide_eq_true (show m ≤ m by omega), decide_eq_true (show m < te by omega)]
        simp
      · have : (came.set k true).getD m false = came.getD m false := by
          rw [List.getD_eq_getElem?_getD, List.getElem?_set_ne (by omega), ← List.getD_eq_getElem?_getD]
        rw [this]
        congr 2
        exact decide_eq_decide.2 (by omega)
    · have hw : wrap64 ((k : Int) + 1) = ((k + 1 : Nat) : Int) := by rw [w64 (by omega) (by omega)]; omega
      apply ev_succ
      simp only [batonlaw32_InboxOnce.l1, if_pos (show (k : Int) < (te : Int) by omega), Bool.false_eq_true, if_false, if_pos (show (0 : Int) ≤ (k : Int) by omega), if_pos (show (k : Int) < (came.length : Int) by omega), hw, Int.toNat_natCast]
      exact h3 r hr
theorem Once_l2 (T : List Int) (P : List S71) (came : List Bool) (i : Nat) (n : Nat) (R : List S142) (hT : T.length ≤ 200) (hc : came.length = 300) (hn : n ≤ T.length) (hall : ∀ m, m < n → came.getD m false = true) (hno : n < T.length → came.getD n false = false) (hi : i < 1000) (r : Bool) (hr : Ev (fun q => batonlaw32_InboxOnce.l0 q T P (T.take n) came ((i + 1 : Nat) : Int) (n : Int) R) r) :
    ∀ (d k : Nat), n - k = d → k ≤ n → Ev (fun q => batonlaw32_InboxOnce.l2 q T P (T.take n) came (i : Int) (k : Int) (n : Int) R) r := by
  have hlen : (T.take n).length = n := by rw [List.length_take]; omega
  have hw : wrap64 ((i : Int) + 1) = ((i + 1 : Nat) : Int) := by rw [w64 (by omega) (by omega)]; omega
  have hsame : Ev (fun q => batonref01_Same.f q (T.take n) (T.take n)) true := ev_eq (Same_ev _ _ (by omega)) (by simp)
  intro d
  induction d with
  | zero =>
    intro k hd hk
    obtain rfl : k = n := by omega
    apply ev_succ
    by_cases c : k < T.length
    · simp only [batonlaw32_InboxOnce.l2, if_pos (show (k : Int) < (T.length : Int) by omega), if_pos (show (0 : Int) ≤ (k : Int) by omega), if_pos (show (k : Int) < (came.length : Int) by omega), rdB, hno c, Bool.false_eq_true, if_false, if_true, hlen, Int.toNat_natCast, if_pos (show (k : Int) ≤ (T.length : Int) by omega)]
      refine ev_bind hsame ?_
      simp only [if_true, hw]
      exact hr
    · simp only [batonlaw32_InboxOnce.l2, if_neg (show ¬ (k : Int) < (T.length : Int) by omega), if_pos (show (0 : Int) ≤ (k : Int) by omega), if_true, hlen, Int.toNat_natCast, if_pos (show (k : Int) ≤ (T.length : Int) by omega)]
      refine ev_bind hsame ?_
      simp only [if_true, hw]
      exact hr
  | succ d ih =>
    intro k hd hk
    have hw1 : wrap64 ((k : Int) + 1) = ((k + 1 : Nat) : Int) := by rw [w64 (by omega) (by omega)]; omega
    apply ev_succ
    simp only [batonlaw32_InboxOnce.l2, if_pos (show (k : Int) < (T.length : Int) by omega), if_pos (show (0 : Int) ≤ (k : Int) by omega), if_pos (show (k : Int) < (came.length : Int) by omega), rdB, hall k (by omega), if_true, hw1]
    exact ih (k + 1) (by omega) (by omega)
/-- How it stands behind some parts. -/
structure Inv (T : List Int) (came : List Bool) (n : Nat) (held : List S142) (i : Nat) : Prop where
  c300 : came.length = 300
  nT : n ≤ T.length
  all : ∀ m, m < n → came.getD m false = true
  no : n < T.length → came.getD n false = false
  sa : SA held
  key : ∀ x ∈ held, (n : Int) < x.f0 ∧ x.f0 < (T.length : Int)
  lk : ∀ m : Nat, n ≤ m → m < T.length → lookH held (m : Int) = if came.getD m false = true then some (T.getD m 0) else none
  len : held.length ≤ 300 * i
theorem look_mem : ∀ (l : List S142) (n b : Int), lookH l n = some b → ∃ x ∈ l, x.f0 = n
  | [], n, b, h => by simp [lookH] at h
  | x :: t, n, b, h => by
    by_cases c : x.f0 = n
    · exact ⟨x, by simp, c⟩
    · have h' : lookH t n = some b := by
        have : lookH (x :: t) n = lookH t n := by
          show (if x.f0 = n then _ else _) = _
          rw [if_neg c]
        rwa [this] at h
      obtain ⟨y, h1, h2⟩ := look_mem t n b h'
      exact ⟨y, by simp [h1], h2⟩
theorem rd_sub (T : List Int) (fr te j : Nat) (hto : te ≤ T.length) (hj : fr + j < te) : rd ((T.take te).drop fr) (j : Int) = T.getD (fr + j) 0 := by
  unfold rd
  rw [Int.toNat_natCast, List.getD_eq_getElem?_getD, List.getD_eq_getElem?_getD, List.getElem?_drop, List.getElem?_take, if_pos hj]
theorem Once_step (T : List Int) (came came' : List Bool) (n fr te : Nat) (held L : List S142) (i : Nat) (hI : Inv T came n held i) (hT : T.length ≤ 200) (h1 : fr ≤ te) (h2 : te ≤ T.length) (hc' : came'.length = 300) (hm : ∀ m, came'.getD m false = (came.getD m false || (decide (fr ≤ m) && decide (m < te)))) (hL : PF held (n : Int) (fr : Int) ((T.take te).drop fr) (te - fr) L) :
    n + (run (n : Int) L).1.length ≤ T.length ∧ T.take (n + (run (n : Int) L).1.length) = T.take n ++ (run (n : Int) L).1 ∧ Inv T came' (n + (run (n : Int) L).1.length) (run (n : Int) L).2 (i + 1) := by
  obtain ⟨p1, p2, p3, p4⟩ := hL
  have hkeyL : ∀ x ∈ L, (n : Int) ≤ x.f0 ∧ x.f0 < (T.length : Int) := fun x hx => by
    rcases p4 x hx with h | ⟨q1, q2, q3, _⟩
    · have := hI.key x h; omega
    · omega
  obtain ⟨r1, r2, r3, r4, r5⟩ := run_spec L (n : Int) p1 (fun x hx => (hkeyL x hx).1)
  -- what is held then of each number
  have hMf : ∀ m : Nat, n ≤ m → m < T.length → lookH L (m : Int) = if came'.getD m false = true then some (T.getD m 0) else none := fun m a b => by
    rw [p3 (m : Int)]
    unfold Mf
    rw [hI.lk m a b, hm m]
    by_cases c : came.getD m false = true
    · rw [if_pos c, c]
      simp
    · rw [if_neg c]
      have c' : came.getD m false = false := by simpa using c
      dsimp only
      rw [c', Bool.false_or]
      by_cases c2 : fr ≤ m ∧ m < te
      · rw [if_pos ⟨by omega, by omega, by omega⟩, decide_eq_true c2.1, decide_eq_true c2.2]
        rw [show (m : Int) - (fr : Int) = ((m - fr : Nat) : Int) by omega, rd_sub T fr te (m - fr) h2 (by omega), show fr + (m - fr) = m by omega]
        simp
      · rw [if_neg (fun h => c2 ⟨by omega, by omega⟩)]
        have : (decide (fr ≤ m) && decide (m < te)) = false := by
          by_cases h : fr ≤ m
          · rw [decide_eq_false (show ¬ m < te from fun h3 => c2 ⟨h, h3⟩), Bool.and_false]
          · rw [decide_eq_false h, Bool.false_and]
        rw [this]
        simp
  have hlt : ∀ j, j < (run (n : Int) L).1.length → n + j < T.length := fun j hj => by
    obtain ⟨x, hx, e⟩ := look_mem L _ _ (r1 j hj)
    have := hkeyL x hx
    omega
  have hle : n + (run (n : Int) L).1.length ≤ T.length := by
    rcases Nat.eq_zero_or_pos (run (n : Int) L).1.length with h | h
    · have := hI.nT; omega
    · have := hlt ((run (n : Int) L).1.length - 1) (by omega); omega
  have hval : ∀ j (hj : j < (run (n : Int) L).1.length), came'.getD (n + j) false = true ∧ (run (n : Int) L).1[j] = T.getD (n + j) 0 := fun j hj => by
    have h := r1 j hj
    rw [show (n : Int) + (j : Int) = ((n + j : Nat) : Int) by omega, hMf (n + j) (by omega) (hlt j hj)] at h
    by_cases c : came'.getD (n + j) false = true
    · rw [if_pos c] at h
      exact ⟨c, (Option.some.inj h).symm⟩
    · rw [if_neg c] at h
      cases h
  refine ⟨hle, ?_, ⟨hc', hle, fun m hm' => ?_, fun hlt' => ?_, r3, fun x hx => ?_, fun m a b => ?_, ?_⟩⟩
  · apply List.ext_getElem
    · rw [List.length_append, List.length_take, List.length_take]
      have := hI.nT
      omega
    · intro j g1 g2
      rw [List.getElem_take]
      rw [List.length_take] at g1
      by_cases c : j < n
      · rw [List.getElem_append_left (by rw [List.length_take]; omega), List.getElem_take]
      · have hnl : (T.take n).length = n := by rw [List.length_take]; have := hI.nT; omega
        rw [List.getElem_append_right (by omega)]
        have hj : j - (T.take n).length < (run (n : Int) L).1.length := by omega
        have := (hval (j - n) (by omega)).2
        simp only [hnl]
        rw [this, show n + (j - n) = j by omega, List.getD_eq_getElem?_getD, List.getElem?_eq_getElem (by omega)]
        rfl
  · by_cases c : m < n
    · rw [hm m, hI.all m c, Bool.true_or]
    · have := (hval (m - n) (by omega)).1
      rwa [show n + (m - n) = m by omega] at this
  · have h := r2
    rw [show (n : Int) + ((run (n : Int) L).1.length : Int) = ((n + (run (n : Int) L).1.length : Nat) : Int) by omega, hMf _ (by omega) hlt'] at h
    by_cases c : came'.getD (n + (run (n : Int) L).1.length) false = true
    · rw [if_pos c] at h
      cases h
    · simpa using c
  · have := r4 x hx
    have h2' := hkeyL x this.2
    exact ⟨by omega, h2'.2⟩
  · rw [r5 (m : Int) (by omega)]
    exact hMf m (by omega) b
  · have hR : (run (n : Int) L).2.length ≤ L.length := by
      have : ∀ (L : List S142) (n : Int), (run n L).2.length ≤ L.length := by
        intro L
        induction L with
        | nil => intro n; simp [run]
        | cons x t ih =>
          intro n
          show (if x.f0 = n then _ else _ : List Int × List S142).2.length ≤ _
          split
          · have := ih (n + 1)
            simp
            omega
          · simp
      exact this L _
    have := hI.len
    omega
theorem fr_ex (x : Int) (n : Nat) (h0 : 0 ≤ x) (h1 : x ≤ 255) (hn : n ≤ 200) : ∃ fr : Nat, mn (wrap64 x) (n : Int) = (fr : Int) ∧ fr ≤ n := by
  rw [w64 (by omega) (by omega)]
  unfold mn
  split
  · exact ⟨n, rfl, Nat.le_refl _⟩
  · exact ⟨x.toNat, by omega, by omega⟩
theorem te_ex (fr : Nat) (x : Int) (n : Nat) (h0 : 0 ≤ x) (h1 : x ≤ 255) (hn : n ≤ 200) (hf : fr ≤ n) : ∃ te : Nat, mn (wrap64 ((fr : Int) + wrap64 x)) (n : Int) = (te : Int) ∧ fr ≤ te ∧ te ≤ n := by
  rw [w64 (x := x) (by omega) (by omega), w64 (by omega) (by omega)]
  unfold mn
  split
  · exact ⟨n, rfl, hf, Nat.le_refl _⟩
  · exact ⟨((fr : Int) + x).toNat, by omega, by omega, by omega⟩
theorem te_one (te n : Nat) (h : te ≤ n) (hn : n ≤ 200) : wrap64 ((te : Int) - 1) = (te : Int) - 1 := w64 (by omega) (by omega)
set_option maxHeartbeats 4000000 in
theorem Once_l0 (T : List Int) (P : List S71) (hT : T.length ≤ 200) (hP : P.length ≤ 60) (hw : ∀ x ∈ P, WF71 x) : ∀ (d i : Nat) (came : List Bool) (n : Nat) (held : List S142), P.length - i = d → i ≤ P.length → Inv T came n held i →
    Ev (fun k => batonlaw32_InboxOnce.l0 k T P (T.take n) came (i : Int) (n : Int) held) true := by
  intro d
  induction d with
  | zero =>
    intro i came n held hd hi hI
    obtain rfl : i = P.length := by omega
    apply ev_succ
    simp only [batonlaw32_InboxOnce.l0, if_neg (show ¬ ((P.length : Int) < (P.length : Int)) by omega)]
    exact ev_some _
  | succ d ih =>
    intro i came n held hd hi hI
    have hlt : i < P.length := by omega
    have q1 : (i : Int) < (P.length : Int) := Int.ofNat_lt.2 hlt
    have q2 : (0 : Int) ≤ (i : Int) := Int.natCast_nonneg i
    have hwi : wrap64 ((i : Int) + 1) = ((i + 1 : Nat) : Int) := by rw [w64 (by omega) (by omega)]; omega
    have hnT := hI.nT
    have hlen := hI.len
    have e2 : wrap64 ((n : Int) + 64) = (n : Int) + 64 := w64 (by omega) (by omega)
    obtain ⟨w0, w1⟩ := hw P[i] (List.getElem_mem hlt)
    have b0 := bounds_u8 w0
    have b1 := bounds_u8 w1
    clear w0 w1
    obtain ⟨fr, hfr, hfrT⟩ := fr_ex (P[i]).f0 T.length b0.1 b0.2 hT
    obtain ⟨te, hto, hto1, hto2⟩ := te_ex fr (P[i]).f1 T.length b1.1 b1.2 hT hfrT
    have q3 : (0 : Int) ≤ (fr : Int) := Int.natCast_nonneg fr
    have q4 : (fr : Int) ≤ (te : Int) := Int.ofNat_le.2 hto1
    have q5 : (te : Int) ≤ (T.length : Int) := Int.ofNat_le.2 hto2
    have e1 := te_one te T.length hto2 hT
    apply ev_succ
    simp only [batonlaw32_InboxOnce.l0, if_pos q1, if_pos q2, rd71 P i hlt, hfr, hto, if_pos q3, if_pos q4, if_pos q5, Int.toNat_natCast, e1, e2]
    clear hfr hto b0 b1 e1 e2
    have hbl : ((T.take te).drop fr).length = te - fr := by rw [List.length_drop, List.length_take]; omega
    by_cases early : fr < te ∧ n + 64 < te
    · refine ev_bind (Take_early (n : Int) held (fr : Int) 300 ((T.take te).drop fr) (by omega) (by omega) (by omega) (by omega) (by omega) (by omega) (by omega)) ?_
      simp only [if_pos (show (te : Int) > (fr : Int) by omega), decide_eq_true (show (te : Int) - 1 ≥ (n : Int) + 64 by omega)]
      apply ev_succ
      simp only [batonlaw32_InboxOnce.j2, show (((2 : Int) == 2) != true) = false from rfl, Bool.false_eq_true, if_false, if_true]
      apply ev_succ
      simp only [batonlaw32_InboxOnce.j3, Bool.false_eq_true, if_false]
      apply ev_succ
      simp only [batonlaw32_InboxOnce.l1, if_pos (show (fr : Int) < (te : Int) by omega), if_true]
      apply ev_succ
      simp only [batonlaw32_InboxOnce.j5, if_pos (show (T.take n).length + ([] : List Int).length < 140737488355328 by rw [List.length_take]; simp; omega), List.append_nil]
      have hI' : Inv T came n held (i + 1) := ⟨hI.c300, hI.nT, hI.all, hI.no, hI.sa, hI.key, hI.lk, by omega⟩
      exact Once_l2 T P came i n held hT hI.c300 hnT hI.all hI.no (by omega) true (ih (i + 1) came n held (by omega) (by omega) hI') n 0 (by omega) (by omega)
    · obtain ⟨L, hL, hr⟩ := Take_ok (n : Int) held (fr : Int) 300 ((T.take te).drop fr) (by omega) (by omega) hI.sa (fun x hx => (hI.key x hx).1) (by omega) (by omega) (by omega) (by omega) (fun _ => by omega)
      rw [hbl] at hL
      obtain ⟨came', g1, g2, g3⟩ := Once_l1 T P (T.take n) (i : Int) te (run (n : Int) L).1 ((n + (run (n : Int) L).1.length : Nat) : Int) (run (n : Int) L).2 (by omega) (te - fr) fr came rfl hto1 hI.c300
      obtain ⟨s1, s2, s3⟩ := Once_step T came came' n fr te held L i hI hT hto1 hto2 g1 g2 hL
      rw [if_neg (by omega)] at hr
      refine ev_bind hr ?_
      have hfin : Ev (fun q => batonlaw32_InboxOnce.j2 q T P (T.take n) came (i : Int) (fr : Int) (te : Int) (run (n : Int) L).1 0 false ((n : Int) + ((run (n : Int) L).1.length : Int)) (run (n : Int) L).2) true := by
        apply ev_succ
        simp only [batonlaw32_InboxOnce.j2, show (((0 : Int) == 2) != false) = false from rfl, Bool.false_eq_true, if_false, show ((0 : Int) != 0) = false from rfl]
        apply ev_succ
        simp only [batonlaw32_InboxOnce.j3, Bool.false_eq_true, if_false]
        rw [show (n : Int) + ((run (n : Int) L).1.length : Int) = ((n + (run (n : Int) L).1.length : Nat) : Int) by omega]
        refine g3 true ?_
        apply ev_succ
        simp only [batonlaw32_InboxOnce.j5, if_pos (show (T.take n).length + (run (n : Int) L).1.length < 140737488355328 by rw [List.length_take]; omega)]
        rw [← s2]
        exact Once_l2 T P came' i _ _ hT g1 s1 s3.all s3.no (by omega) true (ih (i + 1) came' _ _ (by omega) (by omega) s3) _ 0 rfl (by omega)
      by_cases c : (te : Int) > (fr : Int)
      · simp only [if_pos c, decide_eq_false (show ¬ (te : Int) - 1 ≥ (n : Int) + 64 by omega)]
        exact hfin
      · simp only [if_neg c]
        exact hfin
theorem InboxOnce : batonlaw32_InboxOnce.Pure := by
  intro T P _ hP
  refine Ev.rounds ?_
  unfold batonlaw32_InboxOnce.f
  refine ev_bind awake32 ?_
  simp only [if_true]
  by_cases c1 : (T.length : Int) > 200
  · simp only [if_pos c1]
    apply ev_succ
    simp only [batonlaw32_InboxOnce.j0, if_true]
    exact ev_some _
  · simp only [if_neg c1]
    apply ev_succ
    by_cases c2 : (P.length : Int) > 60
    · simp only [batonlaw32_InboxOnce.j0, decide_eq_true c2, if_true]
      exact ev_some _
    · simp only [batonlaw32_InboxOnce.j0, decide_eq_false c2, Bool.false_eq_true, if_false, if_pos (show 300 ≤ 281474976710656 by decide)]
      have hz : ∀ m, (List.replicate 300 false).getD m false = false := fun m => by
        rw [List.getD_eq_getElem?_getD, List.getElem?_replicate]
        split <;> rfl
      have hI : Inv T (List.replicate 300 false) 0 [] 0 := ⟨List.length_replicate, by omega, fun m h => by omega, fun _ => hz 0, List.Pairwise.nil, fun x hx => by simp at hx, fun m _ _ => by rw [hz m]; rfl, by simp⟩
      exact Once_l0 T P (by omega) (by omega) hP.2 P.length 0 _ 0 [] (by omega) (by omega) hI

end Go.Proofs.Ytdbfclfglpbpmaa.Pure
