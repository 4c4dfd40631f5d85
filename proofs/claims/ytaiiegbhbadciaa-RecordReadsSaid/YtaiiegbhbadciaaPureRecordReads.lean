/- The law RecordReads, of plain lists: which record any block holds, or why it holds none, is what the page says; so is a block with another mark. No condition beside the sizes that the row itself gives. -/
import Derived.Test.YtaiiegbhbadciaaLF22R
namespace Go.Proofs.Ytaiiegbhbadciaa.Pure
open Go.RowKit Go.Proofs.Ytaiiegbhbadciaa.Base Go.Proofs.YtaiiegbhbadciaaW.PrintWords Go.Proofs.YtaiiegbhbadciaaW.PrintMore Go.Proofs.Ytaiiegbhbadciaa.PF22R
set_option linter.unusedVariables false
set_option linter.unusedSimpArgs false
open Go.Proofs.Ytaiiegbhbadciaa.LF22R

theorem num8 : ∀ xs : List Int, xs.length = 8 → Bytes xs → be 8 (num xs) = xs ∧ (num xs ≥ 72057594037927936 ↔ ¬ rd xs 0 = 0)
  | [a, b, c, d, e, f, g, h], _, hB => by
    have ha := hB a (by simp)
    have hb := hB b (by simp)
    have hc := hB c (by simp)
    have hd := hB d (by simp)
    have he := hB e (by simp)
    have hf := hB f (by simp)
    have hg := hB g (by simp)
    have hh := hB h (by simp)
    have hn : num [a, b, c, d, e, f, g, h] = a * 72057594037927936 + b * 281474976710656 + c * 1099511627776 + d * 4294967296 + e * 16777216 + f * 65536 + g * 256 + h := by
      show stepN (stepN (stepN (stepN (stepN (stepN (stepN (stepN 0 a) b) c) d) e) f) g) h = _
      have s1 : stepN 0 a = a := by unfold stepN; omega
      have s2 : stepN a b = a * 256 + b := by unfold stepN; omega
      have s3 : stepN (a * 256 + b) c = (a * 256 + b) * 256 + c := by unfold stepN; omega
      have s4 : stepN ((a * 256 + b) * 256 + c) d = ((a * 256 + b) * 256 + c) * 256 + d := by unfold stepN; omega
      have s5 : stepN (((a * 256 + b) * 256 + c) * 256 + d) e = (((a * 256 + b) * 256 + c) * 256 + d) * 256 + e := by unfold stepN; omega
      have s6 : stepN ((((a * 256 + b) * 256 + c) * 256 + d) * 256 + e) f = ((((a * 256 + b) * 256 + c) * 256 + d) * 256 + e) * 256 + f := by unfold stepN; omega
      have s7 : stepN (((((a * 256 + b) * 256 + c) * 256 + d) * 256 + e) * 256 + f) g = (((((a * 256 + b) * 256 + c) * 256 + d) * 256 + e) * 256 + f) * 256 + g := by unfold stepN; omega
      have s8 : stepN ((((((a * 256 + b) * 256 + c) * 256 + d) * 256 + e) * 256 + f) * 256 + g) h = ((((((a * 256 + b) * 256 + c) * 256 + d) * 256 + e) * 256 + f) * 256 + g) * 256 + h := by unfold stepN; omega
      rw [s1, s2, s3, s4, s5, s6, s7, s8]
      omega
    have hr : rd [a, b, c, d, e, f, g, h] 0 = a := rfl
    rw [hn, hr]
    refine ⟨?_, by omega⟩
    show [_ / 72057594037927936 % 256, _ / 281474976710656 % 256, _ / 1099511627776 % 256, _ / 4294967296 % 256, _ / 16777216 % 256, _ / 65536 % 256, _ / 256 % 256, _ / 1 % 256] = _
    simp only [List.cons.injEq, and_true]
    refine ⟨?_, ?_, ?_, ?_, ?_, ?_, ?_, ?_⟩ <;> omega
theorem cut2 (l : List Int) (i j : Nat) (h : i ≤ j) : l.take j = l.take i ++ (l.take j).drop i := by
  have := List.take_append_drop i (l.take j)
  rw [List.take_take, Nat.min_eq_left h] at this
  exact this.symm
theorem split251 (b : List Int) (hl : b.length = 256) (n : Nat) (hn : n ≤ 234) : b.take 251 = b.take 8 ++ (b.take 16).drop 8 ++ [rd b 16] ++ (b.take (17 + n)).drop 17 ++ (b.take 251).drop (17 + n) := by
  have h17 : (b.take 17).drop 16 = [rd b 16] := by
    have h1 : (b.take (16 + 1)) = b.take 16 ++ [b[16]] := (List.take_append_getElem (by omega)).symm
    have hr := rd_lt (xs := b) (i := 16) (by omega)
    rw [show ((16 : Nat) : Int) = 16 from rfl] at hr
    rw [show 17 = 16 + 1 from rfl, h1, List.drop_append_of_le_length (by rw [List.length_take]; omega), List.drop_of_length_le (by rw [List.length_take]; omega), List.nil_append, hr]
  have e1 := cut2 b (17 + n) 251 (by omega)
  have e2 := cut2 b 17 (17 + n) (by omega)
  have e3 := cut2 b 16 17 (by omega)
  have e4 := cut2 b 8 16 (by omega)
  rw [h17] at e3
  rw [← e4, ← e3, ← e2, ← e1]
theorem any0 (l : List Int) : l.any (fun c => c != 0) = false ↔ l = List.replicate l.length 0 := by
  rw [List.any_eq_false]
  constructor
  · intro h
    apply List.eq_replicate_of_mem
    intro x hx
    have := h x hx
    simpa using this
  · intro h x hx
    rw [h] at hx
    have := List.eq_of_mem_replicate hx
    simp [this]
theorem RRead_ev (b : List Int) (hb : Bytes b) (hl : b.length = 256) : Ev (fun k => batonref22_Read.f k b) (rdS b) := by
  have hli : (b.length : Int) = 256 := by omega
  have h16 := Bytes.rd hb (i := 16) (by omega) (by omega)
  have g1 := refGet_ev (b.take 8) (hb.take 8) (by rw [List.length_take]; omega)
  have g2 := refGet_ev ((b.take 16).drop 8) ((hb.take 16).drop 8) (by rw [List.length_drop, List.length_take]; omega)
  have r1 := num_range (b.take 8) (hb.take 8)
  have r2 := num_range ((b.take 16).drop 8) ((hb.take 16).drop 8)
  have hl8 : (b.take 8).length = 8 := by rw [List.length_take]; omega
  have hl16 : ((b.take 16).drop 8).length = 8 := by rw [List.length_drop, List.length_take]; omega
  obtain ⟨n1, n1'⟩ := num8 (b.take 8) hl8 (hb.take 8)
  obtain ⟨n2, n2'⟩ := num8 ((b.take 16).drop 8) hl16 ((hb.take 16).drop 8)
  have rd0 : rd (b.take 8) 0 = rd b 0 := by
    have q1 := rd_lt (xs := b.take 8) (i := 0) (by omega)
    have q2 := rd_lt (xs := b) (i := 0) (by omega)
    rw [show ((0 : Nat) : Int) = 0 from rfl] at q1 q2
    rw [q1, q2, List.getElem_take]
  have rd8 : rd ((b.take 16).drop 8) 0 = rd b 8 := by
    have q1 := rd_lt (xs := (b.take 16).drop 8) (i := 0) (by omega)
    have q2 := rd_lt (xs := b) (i := 8) (by omega)
    rw [show ((0 : Nat) : Int) = 0 from rfl] at q1
    rw [show ((8 : Nat) : Int) = 8 from rfl] at q2
    rw [q1, q2, List.getElem_drop, List.getElem_take]
  rw [rd0] at n1'
  rw [rd8] at n2'
  have hs := rSum_ev (b.take 251) (hb.take 251) (by rw [List.length_take]; omega)
  have he := Same_ev (le4 (sumS 0 (b.take 251))) ((b.take 255).drop 251) (by show 4 ≤ _; omega)
  unfold batonref22_Read.f rdS
  simp only [hli, if_true, if_pos (show (255 : Int) < 256 by decide)]
  by_cases c1 : rd b 255 = 0
  · simp only [if_pos c1]
    exact ev_some _
  · by_cases c2 : rd b 255 > 1
    · simp only [if_neg c1, if_pos c2]
      exact ev_some _
    · simp only [if_neg c1, if_neg c2, if_pos (show (251 : Int) ≤ 256 by decide)]
      refine ev_bind hs ?_
      simp only [if_pos (show (251 : Int) ≤ 255 by decide), if_pos (show (255 : Int) ≤ 256 by decide)]
      refine ev_bind he ?_
      by_cases c3 : le4 (sumS 0 (b.take 251)) = (b.take 255).drop 251
      · have jt : Ev (fun k => batonref22_Read.j0 k b true) (0, 0, [], 6) := by
          apply ev_succ
          simp only [batonref22_Read.j0, if_true]
          exact ev_some _
        simp only [decide_eq_true c3, if_true, if_pos c3, if_pos (show (0 : Int) < 256 by decide), if_pos (show (8 : Int) < 256 by decide), if_pos (show (16 : Int) < 256 by decide)]
        by_cases c4 : rd b 0 = 0
        · simp only [if_pos c4, if_neg (fun h => n1'.1 h c4)]
          by_cases c5 : rd b 8 = 0
          · simp only [if_pos c5, if_neg (fun h => n2'.1 h c5)]
            by_cases c6 : rd b 16 > 234
            · simp only [if_pos c6, decide_eq_true c6]
              exact jt
            · have b1 : num (b.take 8) < 72057594037927936 := by have := fun h => n1'.1 h c4; omega
              have b2 : num ((b.take 16).drop 8) < 72057594037927936 := by have := fun h => n2'.1 h c5; omega
              have hdl : ((b.take (17 + (rd b 16).toNat)).drop 17).length = (rd b 16).toNat := by rw [List.length_drop, List.length_take]; omega
              have hdB : Bytes ((b.take (17 + (rd b 16).toNat)).drop 17) := (hb.take _).drop 17
              have hmk := RMake_ev (num (b.take 8)) (num ((b.take 16).drop 8)) ((b.take (17 + (rd b 16).toNat)).drop 17) (by unfold okR; omega) hdB (by omega)
              have hml := made_len (num (b.take 8)) (num ((b.take 16).drop 8)) ((b.take (17 + (rd b 16).toNat)).drop 17) (by omega)
              have hbl := body_len (num (b.take 8)) (num ((b.take 16).drop 8)) ((b.take (17 + (rd b 16).toNat)).drop 17) (by omega)
              have hsp := split251 b hl (rd b 16).toNat (by omega)
              have hbody : body (num (b.take 8)) (num ((b.take 16).drop 8)) ((b.take (17 + (rd b 16).toNat)).drop 17) = b.take 8 ++ (b.take 16).drop 8 ++ [rd b 16] ++ (b.take (17 + (rd b 16).toNat)).drop 17 ++ List.replicate (251 - (17 + (rd b 16).toNat)) 0 := by
                unfold body pre
                rw [n1, n2, hdl, Int.toNat_of_nonneg h16.1]
              have hzl : ((b.take 251).drop (17 + (rd b 16).toNat)).length = 251 - (17 + (rd b 16).toNat) := by rw [List.length_drop, List.length_take]; omega
              have hiff : body (num (b.take 8)) (num ((b.take 16).drop 8)) ((b.take (17 + (rd b 16).toNat)).drop 17) = b.take 251 ↔ ((b.take 251).drop (17 + (rd b 16).toNat)).any (fun c => c != 0) = false := by
                rw [any0, hzl]
                constructor
                · intro h
                  have h2 : (body (num (b.take 8)) (num ((b.take 16).drop 8)) ((b.take (17 + (rd b 16).toNat)).drop 17)).drop (17 + (rd b 16).toNat) = List.replicate (251 - (17 + (rd b 16).toNat)) 0 := by
                    have hpl : (b.take 8 ++ (b.take 16).drop 8 ++ [rd b 16] ++ (b.take (17 + (rd b 16).toNat)).drop 17).length = 17 + (rd b 16).toNat := by
                      simp only [List.length_append, hl8, hl16, hdl, List.length_singleton]
                    rw [hbody, List.drop_append_of_le_length (by omega), List.drop_of_length_le (by omega), List.nil_append]
                  rw [← h, h2]
                · intro h
                  rw [hbody, ← h]
                  exact hsp.symm
              have h255 : b.take 255 = b.take 251 ++ le4 (sumS 0 (b.take 251)) := by
                rw [c3]
                exact cut2 b 251 255 (by omega)
              have heq : (body (num (b.take 8)) (num ((b.take 16).drop 8)) ((b.take (17 + (rd b 16).toNat)).drop 17) ++ le4 (sumS 0 (body (num (b.take 8)) (num ((b.take 16).drop 8)) ((b.take (17 + (rd b 16).toNat)).drop 17))) ++ [0]).take 255 = b.take 255 ↔ ((b.take 251).drop (17 + (rd b 16).toNat)).any (fun c => c != 0) = false := by
                rw [← hiff, List.take_append_of_le_length (by omega), List.take_of_length_le (by omega), h255]
                constructor
                · intro h
                  exact (List.append_inj h (by rw [hbl, List.length_take]; omega)).1
                · intro h
                  rw [h]
              simp only [if_neg c6, decide_eq_false c6]
              apply ev_succ
              simp only [batonref22_Read.j0, Bool.false_eq_true, if_false, hli, if_pos (show (16 : Int) < 256 by decide), if_pos (show (8 : Int) ≤ 256 by decide), if_pos (show (16 : Int) ≤ 256 by decide)]
              refine ev_bind g1 ?_
              refine ev_bind g2 ?_
              simp only [Option.bind_some, w64 (x := rd b 16) (by omega) (by omega), w64 (x := 17 + rd b 16) (by omega) (by omega), if_pos (show 17 ≤ 17 + rd b 16 by omega), if_pos (show 17 + rd b 16 ≤ 256 by omega), show (17 + rd b 16).toNat = 17 + (rd b 16).toNat from by omega, List.nil_append, List.length_nil, hdl, if_pos (show 0 + (rd b 16).toNat < 140737488355328 by omega), w64 (x := num (b.take 8)) (by omega) (by omega), w64 (x := num ((b.take 16).drop 8)) (by omega) (by omega)]
              refine ev_bind hmk ?_
              have hlb : ((body (num (b.take 8)) (num ((b.take 16).drop 8)) ((b.take (17 + (rd b 16).toNat)).drop 17) ++ le4 (sumS 0 (body (num (b.take 8)) (num ((b.take 16).drop 8)) ((b.take (17 + (rd b 16).toNat)).drop 17))) ++ [0]).length : Int) = 256 := by
                rw [List.length_append, hml]
                rfl
              simp only [hlb, if_pos (show (255 : Int) ≤ 256 by decide)]
              refine ev_bind (Same_ev _ _ (by rw [List.length_take]; omega)) ?_
              by_cases c7 : ((b.take 251).drop (17 + (rd b 16).toNat)).any (fun c => c != 0) = true
              · simp only [if_pos c7, decide_eq_false (fun h => by have := heq.1 h; rw [this] at c7; cases c7), Bool.false_eq_true, if_false]
                exact ev_some _
              · simp only [if_neg c7, decide_eq_true (heq.2 (by simpa using c7)), if_true]
                exact ev_some _
          · simp only [if_neg c5, if_pos (n2'.2 c5)]
            exact jt
        · simp only [if_neg c4, if_pos (n1'.2 c4)]
          exact jt
      · simp only [decide_eq_false c3, Bool.false_eq_true, if_false, if_neg c3]
        exact ev_some _
theorem Reads_l0 (b m : List Int) (is : Bool) (M : List Int) (z : Int) (hb : b = M ++ [z]) (hm : m = M ++ [if is = true then 1 else 0]) (hl : b.length ≤ 1000) : ∀ (d i : Nat), M.length - i = d → i ≤ M.length → Ev (fun k => batonlaw22_RecordReads.l0 k b is m (i : Int)) true := by
  have hbl : b.length = M.length + 1 := by rw [hb]; simp
  have hml : m.length = M.length + 1 := by rw [hm]; simp
  intro d
  induction d with
  | zero =>
    intro i hd hi
    obtain rfl : i = M.length := by omega
    have hw : wrap64 ((M.length : Int) + 1) = (M.length : Int) + 1 := w64 (by omega) (by omega)
    have hw1 : wrap64 ((b.length : Int) - 1) = (M.length : Int) := by rw [w64 (by omega) (by omega)]; omega
    have hr : rd m (M.length : Int) = if is = true then 1 else 0 := by
      rw [rd_lt (by omega)]
      simp [hm]
    apply ev_succ
    simp only [batonlaw22_RecordReads.l0, hw, if_neg (show ¬ (M.length : Int) + 1 < (b.length : Int) by omega), if_neg (show ¬ (b.length : Int) = 0 by omega), hw1, if_pos (show (0 : Int) ≤ (M.length : Int) by omega), if_pos (show (M.length : Int) < (m.length : Int) by omega), hr]
    cases is <;> exact ev_some _
  | succ d ih =>
    intro i hd hi
    have hw : wrap64 ((i : Int) + 1) = ((i + 1 : Nat) : Int) := by rw [w64 (by omega) (by omega)]; omega
    have h1 : rd m (i : Int) = rd b (i : Int) := by
      rw [rd_lt (by omega), rd_lt (by omega)]
      simp only [hm, hb]
      rw [List.getElem_append_left (by omega), List.getElem_append_left (by omega)]
    apply ev_succ
    simp only [batonlaw22_RecordReads.l0, hw, if_pos (show ((i + 1 : Nat) : Int) < (b.length : Int) by omega), if_pos (show (0 : Int) ≤ (i : Int) by omega), if_pos (show (i : Int) < (m.length : Int) by omega), if_pos (show (i : Int) < (b.length : Int) by omega), if_pos h1]
    exact ih (i + 1) (by omega) (by omega)
theorem RecordReads : batonlaw22_RecordReads.Pure := by
  intro b is _ _ hbw
  have hb : Bytes b := bytes_of hbw
  refine Ev.rounds ?_
  unfold batonlaw22_RecordReads.f
  refine ev_bind awake22 ?_
  simp only [if_true]
  by_cases c : (b.length : Int) > 300
  · simp only [if_pos c]
    exact ev_some _
  · simp only [if_neg c]
    obtain ⟨r, h1, h2, hdata⟩ : ∃ r, Ev (fun k => record_Read.f k b) r ∧ Ev (fun k => batonref22_Read.f k b) r ∧ r.2.2.1.length ≤ 9000000000000000000 := by
      by_cases h : b.length = 256
      · refine ⟨_, Read_ev b hb h, RRead_ev b hb h, ?_⟩
        unfold rdS
        repeat' split
        all_goals first | (simp; done) | (simp only [List.length_drop, List.length_take]; omega)
      · refine ⟨(0, 0, [], 22), ?_, ?_, by simp⟩
        · unfold record_Read.f
          simp only [if_neg (show ¬ (b.length : Int) = 256 by omega)]
          exact ev_some _
        · unfold batonref22_Read.f
          simp only [if_neg (show ¬ (b.length : Int) = 256 by omega)]
          exact ev_some _
    refine ev_bind h1 (ev_bind h2 ?_)
    have hs := Same_ev r.2.2.1 r.2.2.1 hdata
    rw [decide_eq_true rfl] at hs
    rcases List.eq_nil_or_concat b with rfl | ⟨M, z, hM⟩
    · have hmk : record_Marked.f [] is = some [] := by
        unfold record_Marked.f slices_Clone_byte_byte.f
        simp
      simp only [hmk, Option.bind_some, if_true]
      refine ev_bind hs ?_
      simp only [if_true, bne_self_eq_false]
      apply ev_succ
      simp only [batonlaw22_RecordReads.j0, Bool.false_eq_true, if_false]
      apply ev_succ
      simp only [batonlaw22_RecordReads.l0, List.length_nil, w64 (x := (0 : Int) + 1) (by omega) (by omega), if_neg (show ¬ (0 : Int) + 1 < ((0 : Nat) : Int) by decide), if_pos (show ((0 : Nat) : Int) = 0 from rfl)]
      exact ev_some _
    · rw [List.concat_eq_append] at hM
      have hlM : b.length = M.length + 1 := by rw [hM]; simp
      have hmk : record_Marked.f b is = some (M ++ [if is = true then 1 else 0]) := by
        rw [hM]
        exact Marked_f M z is (by omega)
      have hlen : ((M ++ [if is = true then (1 : Int) else 0]).length : Int) = (b.length : Int) := by
        rw [List.length_append, hlM]
        rfl
      simp only [hmk, Option.bind_some, if_true]
      refine ev_bind hs ?_
      simp only [if_true, hlen, bne_self_eq_false]
      apply ev_succ
      simp only [batonlaw22_RecordReads.j0, Bool.false_eq_true, if_false]
      exact Reads_l0 b _ is M z hM rfl (by omega) M.length 0 (by omega) (by omega)

end Go.Proofs.Ytaiiegbhbadciaa.Pure
