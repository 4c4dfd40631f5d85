/- The law RecordMakes, of plain lists: the block of any record is what the page says, or it has none; it is read as it, marked, and not without. No condition beside the sizes that the row itself gives. -/
import Derived.Test.YtaiiegbhbadciaaLF22
namespace Go.Proofs.Ytaiiegbhbadciaa.Pure
open Go.RowKit Go.Proofs.Ytaiiegbhbadciaa.Base Go.Proofs.YtaiiegbhbadciaaW.PrintWords Go.Proofs.YtaiiegbhbadciaaW.PrintMore Go.Proofs.Ytaiiegbhbadciaa.PF22
set_option linter.unusedVariables false
set_option linter.unusedSimpArgs false
open Go.Proofs.Ytaiiegbhbadciaa.LF22

theorem eight_l0 (x : Int) (h0 : 0 ≤ x) (h1 : x < 72057594037927936) : ∀ (d i : Nat), 8 - i = d → i ≤ 8 → Ev (fun k => batonref22_eight.l0 k (x / 256 ^ i) (be i x) (i : Int)) (be 8 x) := by
  intro d
  induction d with
  | zero =>
    intro i hd hi
    obtain rfl : i = 8 := by omega
    apply ev_succ
    simp only [batonref22_eight.l0, if_neg (show ¬ ((8 : Nat) : Int) < 8 by omega)]
    exact ev_some _
  | succ d ih =>
    intro i hd hi
    have hw : wrap64 ((i : Int) + 1) = ((i + 1 : Nat) : Int) := by rw [w64 (by omega) (by omega)]; omega
    have hq0 : 0 ≤ x / 256 ^ i := Int.ediv_nonneg h0 (Int.le_of_lt (Int.pow_pos (by decide)))
    have hq1 : x / 256 ^ i ≤ x := Int.ediv_le_self _ h0
    have hdd : x / 256 ^ i / 256 = x / 256 ^ (i + 1) := by rw [Int.ediv_ediv_of_nonneg (Int.le_of_lt (Int.pow_pos (by decide))), Int.pow_succ]
    have hl := be_length i x
    apply ev_succ
    simp only [batonref22_eight.l0, if_pos (show (i : Int) < 8 by omega), Option.bind_some, List.length_singleton, hl, if_pos (show 1 + i < 140737488355328 by omega), hw]
    rw [Int.tdiv_eq_ediv_of_nonneg hq0, Int.tmod_eq_emod_of_nonneg hq0, w64 (x := x / 256 ^ i / 256) (by omega) (by omega), hdd, show x / 256 ^ i % 256 % 256 = x / 256 ^ i % 256 by omega]
    have := ih (i + 1) (by omega) (by omega)
    have e : be (i + 1) x = [x / 256 ^ i % 256] ++ be i x := by
      show (x / 2 ^ (8 * i) % 256) :: be i x = _
      rw [show (2 : Int) ^ (8 * i) = 256 ^ i by rw [Int.pow_mul]; rfl]
      rfl
    rw [e] at this
    exact this
theorem eight_ev (x : Int) (h0 : 0 ≤ x) (h1 : x < 72057594037927936) : Ev (fun k => batonref22_eight.f k x) (be 8 x) := by
  have := eight_l0 x h0 h1 8 0 (by omega) (by omega)
  rw [Int.pow_zero, Int.ediv_one] at this
  exact this
theorem rSum_ev (l : List Int) (hb : Bytes l) (hl : l.length ≤ 9000000000000000000) : Ev (fun k => batonref22_Sum.f k l) (le4 (sumS 0 l)) := by
  have hr := sumS_range 0 l (by omega) (by omega) hb
  unfold batonref22_Sum.f
  refine ev_bind (refMore_ev 0 l (by omega) (by omega) hb hl) ?_
  generalize sumS 0 l = s at hr
  rw [Int.tdiv_eq_ediv_of_nonneg hr.1, Int.tdiv_eq_ediv_of_nonneg hr.1, Int.tdiv_eq_ediv_of_nonneg hr.1, Int.tmod_eq_emod_of_nonneg hr.1]
  refine ev_eq (ev_some _) ?_
  unfold le4
  simp only [List.cons.injEq, and_true]
  omega
theorem RMake_l0 (g n : Int) (d : List Int) (hd : Bytes d) (hl : d.length ≤ 234) : ∀ (m : Nat) (z : Nat), 251 - (17 + d.length) - z = m → z ≤ 251 - (17 + d.length) → Ev (fun k => batonref22_Make.l0 k (pre g n d ++ List.replicate z 0)) (body g n d ++ le4 (sumS 0 (body g n d)) ++ [0]) := by
  intro m
  induction m with
  | zero =>
    intro z hz hz2
    obtain rfl : z = 251 - (17 + d.length) := by omega
    have hb : pre g n d ++ List.replicate (251 - (17 + d.length)) 0 = body g n d := rfl
    have hbl := body_len g n d hl
    have hsl : (le4 (sumS 0 (body g n d))).length = 4 := rfl
    rw [hb]
    apply ev_succ
    simp only [batonref22_Make.e1, hbl, if_neg (show ¬ ((251 : Nat) : Int) < 251 by omega)]
    refine ev_bind (rSum_ev (body g n d) (body_bytes g n d hd hl) (by omega)) ?_
    simp only [hsl, if_pos (show 251 + 4 < 140737488355328 by omega), Option.bind_some, List.length_append, hbl, List.length_singleton, if_pos (show 251 + 4 + 1 < 140737488355328 by omega)]
    exact ev_some _
  | succ m ih =>
    intro z hz hz2
    have hlz : (pre g n d ++ List.replicate z 0).length = 17 + d.length + z := by rw [List.length_append, pre_len, List.length_replicate]
    have h := ih (z + 1) (by omega) (by omega)
    rw [List.replicate_succ', ← List.append_assoc] at h
    apply ev_succ
    simp only [batonref22_Make.e1, hlz, if_pos (show ((17 + d.length + z : Nat) : Int) < 251 by omega), Option.bind_some, List.length_singleton, if_pos (show 17 + d.length + z + 1 < 140737488355328 by omega)]
    exact h
theorem RMake_ev (g n : Int) (d : List Int) (h : okR g n) (hd : Bytes d) (hl : d.length ≤ 234) : Ev (fun k => batonref22_Make.f k g n d) (body g n d ++ le4 (sumS 0 (body g n d)) ++ [0]) := by
  unfold okR at h
  unfold batonref22_Make.f
  refine ev_bind (eight_ev g (by omega) (by omega)) (ev_bind (eight_ev n (by omega) (by omega)) ?_)
  have h1 : (be 8 g ++ be 8 n).length = 16 := by rw [List.length_append, be_length, be_length]
  have h2 : (be 8 g ++ be 8 n ++ [(d.length : Int)]).length = 17 := by rw [List.length_append, h1]; rfl
  simp only [be_length, if_pos (show 8 + 8 < 140737488355328 by omega), Option.bind_some, h1, List.length_singleton, if_pos (show 16 + 1 < 140737488355328 by omega), show (d.length : Int) % 256 = (d.length : Int) from by omega, h2, if_pos (show 17 + d.length < 140737488355328 by omega)]
  have := RMake_l0 g n d hd hl (251 - (17 + d.length)) 0 (by omega) (by omega)
  rw [List.replicate_zero, List.append_nil] at this
  exact this
set_option maxRecDepth 100000 in
theorem awake22 : Ev (fun k => batonlaw22_awake.f k) true := by
  have hd : Bytes [3] := bytes_one 3 (by omega)
  have ho : okR 1 2 := by decide
  have hm := Make_ev 1 2 [3] hd (by simp)
  unfold mkS at hm
  rw [if_pos ho, if_neg (by simp)] at hm
  have hl := made_len 1 2 [3] (by simp)
  have hb := made_bytes 1 2 [3] hd (by simp)
  have hr := Read_ev (body 1 2 [3] ++ le4 (sumS 0 (body 1 2 [3])) ++ [1]) (hb.append (bytes_one 1 (by omega))) (by rw [List.length_append, hl]; rfl)
  rw [read_made 1 2 [3] ho hd (by simp)] at hr
  have hr2 : Ev (fun k => record_Read.f k (List.replicate 256 0)) (0, 0, [], 3) := by
    have hq := Read_ev (List.replicate 256 0) (fun x hx => by have := List.eq_of_mem_replicate hx; omega) List.length_replicate
    have hz := read_bare (List.replicate 255 0) List.length_replicate
    rw [← List.replicate_succ'] at hz
    exact ev_eq hq hz
  unfold batonlaw22_awake.f
  refine ev_bind hm ?_
  simp only [Marked_f _ 0 true (show _ ≤ _ by rw [hl]; omega), Option.bind_some, if_true]
  refine ev_bind hr ?_
  simp only [if_pos (show (256 : Nat) ≤ 281474976710656 by decide)]
  refine ev_bind hr2 ?_
  simp only [if_true, List.length_singleton, if_pos (show ((1 : Nat) : Int) = 1 from rfl)]
  exact ev_some _
theorem Check_f (g n : Int) (d : List Int) : Ev (fun k => batonref22_Check.f k g n d) (if okR g n then (if d.length > 234 then 22 else 0) else 1) := by
  have jt : ¬ okR g n → Ev (fun k => batonref22_Check.j0 k true g n d) (if okR g n then (if d.length > 234 then 22 else 0) else 1) := fun h => by
    rw [if_neg h]
    apply ev_succ
    simp only [batonref22_Check.j0, if_true]
    exact ev_some _
  have jf : okR g n → Ev (fun k => batonref22_Check.j0 k false g n d) (if okR g n then (if d.length > 234 then 22 else 0) else 1) := fun h => by
    rw [if_pos h]
    apply ev_succ
    by_cases c : d.length > 234
    · simp only [batonref22_Check.j0, Bool.false_eq_true, if_false, if_pos c, if_pos (show (d.length : Int) > 234 by omega)]
      exact ev_some _
    · simp only [batonref22_Check.j0, Bool.false_eq_true, if_false, if_neg c, if_neg (show ¬ (d.length : Int) > 234 by omega)]
      exact ev_some _
  unfold batonref22_Check.f
  by_cases c1 : g < 0
  · simp only [if_pos c1]
    exact jt (by unfold okR; omega)
  · by_cases c2 : g > 72057594037927935
    · simp only [if_neg c1, if_pos c2]
      exact jt (by unfold okR; omega)
    · by_cases c3 : n < 0
      · simp only [if_neg c1, if_neg c2, if_pos c3]
        exact jt (by unfold okR; omega)
      · simp only [if_neg c1, if_neg c2, if_neg c3]
        by_cases c4 : n > 72057594037927935
        · rw [decide_eq_true c4]
          exact jt (by unfold okR; omega)
        · rw [decide_eq_false c4]
          exact jf (by unfold okR; omega)
theorem RecordMakes : batonlaw22_RecordMakes.Pure := by
  intro g n d _ _ hdw
  have hd : Bytes d := bytes_of hdw.2
  refine Ev.rounds ?_
  unfold batonlaw22_RecordMakes.f
  refine ev_bind awake22 ?_
  simp only [if_true]
  by_cases c : (d.length : Int) > 300
  · simp only [if_pos c]
    exact ev_some _
  · simp only [if_neg c]
    refine ev_bind (Make_ev g n d hd (by omega)) (ev_bind (Check_f g n d) ?_)
    unfold mkS
    by_cases h : okR g n
    · by_cases c2 : d.length > 234
      · simp only [if_pos h, if_pos c2, if_neg (show ¬ (22 : Int) = 0 by decide), List.length_nil, if_pos (show ((0 : Nat) : Int) = 0 from rfl), beq_self_eq_true]
        exact ev_some _
      · have hl := made_len g n d (by omega)
        have hb := made_bytes g n d hd (by omega)
        have hr := Read_ev (body g n d ++ le4 (sumS 0 (body g n d)) ++ [1]) (hb.append (bytes_one 1 (by omega))) (by rw [List.length_append, hl]; rfl)
        rw [read_made g n d h hd (by omega)] at hr
        have hr2 := Read_ev (body g n d ++ le4 (sumS 0 (body g n d)) ++ [0]) (hb.append (bytes_one 0 (by omega))) (by rw [List.length_append, hl]; rfl)
        rw [read_bare _ hl] at hr2
        simp only [if_pos h, if_neg c2, if_true, Marked_f _ 0 true (show _ ≤ _ by rw [hl]; omega), Option.bind_some]
        refine ev_bind hr (ev_bind hr2 ?_)
        simp only [if_true]
        refine ev_bind (RMake_ev g n d h hd (by omega)) ?_
        have hs := Same_ev (body g n d ++ le4 (sumS 0 (body g n d)) ++ [0]) (body g n d ++ le4 (sumS 0 (body g n d)) ++ [0]) (by rw [List.length_append, hl]; simp)
        rw [decide_eq_true rfl] at hs
        refine ev_bind hs ?_
        simp only [if_true]
        have hs2 := Same_ev d d (by omega)
        rw [decide_eq_true rfl] at hs2
        refine ev_bind hs2 ?_
        simp only [if_true]
        exact ev_some _
    · simp only [if_neg h, if_neg (show ¬ (1 : Int) = 0 by decide), List.length_nil, if_pos (show ((0 : Nat) : Int) = 0 from rfl), beq_self_eq_true]
      exact ev_some _

end Go.Proofs.Ytaiiegbhbadciaa.Pure
