/- What 'next' answers, kind by kind, its own walk. No condition beside those that the statement gives. -/
import Derived.Test.YthcpfkkddfgamaaCoQ
import Derived.Test.YthcpfkkddfgamaaCoK
namespace Go.Proofs.Ythcpfkkddfgamaa.Cod
open Go.AnyFacts Go.Proofs.Ythcpfkkddfgamaa.Sha Go.RowKit Go.Proofs.YthcpfkkddfgamaaW.Hand Go.Proofs.YthcpfkkddfgamaaW.PrintWords Go.Proofs.YthcpfkkddfgamaaW.PrintLast Go.Proofs.YthcpfkkddfgamaaW.PrintMore Go.Proofs.Ythcpfkkddfgamaa.PF06R Go.Proofs.Ythcpfkkddfgamaa.Base Go.Proofs.Ythcpfkkddfgamaa.LF06R
attribute [local go_sem] max2_int min2_int max_two min_two max_three min_three max_four min_four
set_option linter.unusedVariables false
set_option linter.unusedSimpArgs false

/-- What 'next' answers: true, the place behind and the error; the reader stands there. -/
def NextPost (w : World) (g : Nat) (b : List Int) : Ending → World → Prop := fun en w' => ∃ (zt code : Int) (rest' : List Int), en = .returned (.tuple #[.bool true, .int .i64 zt, .int .i64 code]) ∧ RSt w g rest' code w' ∧ 0 ≤ code ∧ code ≤ 1000 ∧ (∃ j, rest' = b.drop j) ∧ (code = 0 → ∃ t : Nat, zt = (t : Int) ∧ t ≤ b.length ∧ rest' = b.drop t)
theorem drop_at {b : List Int} {q : Nat} (h : q < b.length) : b.drop q = rd b (q : Int) :: b.drop (q + 1) := by
  rw [List.drop_eq_getElem_cons h, rd_lt h]
theorem byte_at {b : List Int} {q : Nat} (h : q < b.length) : codec_Reader_Byte.f (b.drop q) 0 = some (rd b (q : Int), b.drop (q + 1), 0) := by
  rw [byte_f, drop_at h]
  rfl
theorem byte_end {b : List Int} {q : Nat} (h : b.length ≤ q) : codec_Reader_Byte.f (b.drop q) 0 = some (0, b.drop q, 4) := by
  rw [byte_f, List.drop_of_length_le h]
  rfl

theorem cell_same {w w' : World} {a : Addr} (h : w'.heap[a.block]? = w.heap[a.block]?) : w'.cell? a = w.cell? a := by
  simp only [World.cell?, h]
/-- A row that came in, read in a later world. -/
theorem V_in {w wr : World} {A : Option Addr} {c : Nat} {xs : List Int} (hC : Kd.C (Kd.int .u8) w A xs.length xs) (hc : xs.length ≤ c) (hb : Below w.heap.size w wr) (base : Nat) : Kd.V (Kd.int .u8) 5 wr base (fun k => k < w.heap.size) (.slice A xs.length c) xs := by
  refine Kd.V_mk hc (fun W' hW => ⟨hC.1, hC.2.1, fun hp => ?_⟩)
  obtain ⟨ad, e, hcell⟩ := hC.2.2 hp
  refine ⟨ad, e, fun j p hj => ?_⟩
  obtain ⟨c, h1, h2, h3⟩ := hcell j p hj
  refine ⟨c, h1, h2, fun i u hu => ?_⟩
  have h4 := h3 i u hu
  have hlt := World.block_lt_of_cell? w _ h4
  rw [cell_same ((hW _ hlt (Nat.lt_of_lt_of_le hlt hb.size)).trans (hb.block _ hlt))]
  exact h4
theorem takeR_facts (rest : List Int) (e n : Int) (hl : rest.length ≤ 1000000) (he : 0 ≤ e ∧ e ≤ 1000) : (takeR rest e n).1.length ≤ 1000000 ∧ 0 ≤ (takeR rest e n).2.2.2 ∧ (takeR rest e n).2.2.2 ≤ 1000 ∧ ∃ j, (takeR rest e n).2.2.1 = rest.drop j := by
  unfold takeR
  by_cases h : e = 0
  · by_cases h2 : n ≤ (rest.length : Int)
    · rw [if_pos h, if_pos h2]
      exact ⟨by show (rest.take _).length ≤ _; rw [List.length_take]; omega, by show (0 : Int) ≤ 0; decide, by show (0 : Int) ≤ 1000; decide, _, rfl⟩
    · rw [if_pos h, if_neg h2]
      exact ⟨by show (0 : Nat) ≤ _; omega, by show (0 : Int) ≤ 4; decide, by show (4 : Int) ≤ 1000; decide, 0, rfl⟩
  · rw [if_neg h]
    exact ⟨by show (0 : Nat) ≤ _; omega, he.1, he.2, 0, rfl⟩
theorem textR_facts (rest : List Int) (hb : Bytes rest) (e most : Int) (hl : rest.length ≤ 1000000) (he : 0 ≤ e ∧ e ≤ 1000) : (textR rest e most).1.length ≤ 1000000 ∧ 0 ≤ (textR rest e most).2.2 ∧ (textR rest e most).2.2 ≤ 1000 ∧ ∃ j, (textR rest e most).2.1 = rest.drop j := by
  obtain ⟨_, _, _, n3, n4, j, hj, hd⟩ := numR_facts rest hb e he
  unfold textR
  obtain ⟨t1, t2, t3, k, t4⟩ := takeR_facts (numR rest e).2.1 (if (numR rest e).2.2 = 0 ∧ (numR rest e).1 > most then 22 else (numR rest e).2.2) (numR rest e).1 (by rw [hd, List.length_drop]; omega) (by split; exact ⟨by decide, by decide⟩; exact ⟨n3, n4⟩)
  exact ⟨t1, t2, t3, j + k, by rw [← List.drop_drop, ← hd]; exact t4⟩

section
variable {P : Program} {ops : Array Oper} {rest : List Oper} {o : Oper} {a : Act} {W : World} {Q : Exit → Act → World → Prop}
/-- '==' of two arrays of whole numbers. -/
theorem L_eqarr (hgd : o.guard = none) (ty e : TypeId) (n : Nat) (k : IntKind) (x y : Operand) (ty2 : TypeId) (ho : o.op = .binOp .eql ty x y ty2) (ht : P.underlying ty = some (.array n e)) (he : P.underlying e = some (.int k)) (hsz : (P.info? e).map (·.size) = some 1) (hm : P.eqGuardType P.depth ty = false)
    (xs ys : List Int) (hx : a.eval x = .agg (arr k xs)) (hy : a.eval y = .agg (arr k ys)) (hlx : xs.length = n) (hly : ys.length = n) (b : Bool) (hb : decide (xs = ys) = b)
    (h : wpList P ops Q rest (a.put o.dst (.bool b)) W) : wpList P ops Q (o :: rest) a W := by
  refine Kd.event_run hgd (v := .bool b) (w1 := W) ?_ h
  have h1 : (binOp .eql ty (.agg (arr k xs)) (.agg (arr k ys))).run P W = .ok (.bool b) W := by
    have := run_equalIn_arr (P := P) W 9998 ty e n k ht he hsz xs ys hlx hly
    rw [hb] at this
    simp [binOp, Op.equal, Op.maxDepth, this]
  simp [execOp, ho, hx, hy, run_eqGuard_agg W .eql ty x y (arr k xs) (arr k ys) hm, h1]
end
theorem keyR_end {b : List Int} {q : Nat} (h : ¬ q + 32 ≤ b.length) : keyR (b.drop q) 0 = (Z32, b.drop q, 4) := by
  have ht : takeR (b.drop q) 0 32 = ([], false, b.drop q, 4) := by
    unfold takeR
    have hl : ((b.drop q).length : Int) < 32 := by rw [List.length_drop]; omega
    rw [if_pos rfl, if_neg (by omega)]
  unfold keyR
  rw [ht]
  rfl
theorem keyR_mid {b : List Int} {q : Nat} (h : q + 32 ≤ b.length) : keyR (b.drop q) 0 = ((b.drop q).take 32, b.drop (q + 32), 0) := by
  have ht : takeR (b.drop q) 0 32 = ((b.drop q).take 32, true, b.drop (q + 32), 0) := by
    unfold takeR
    have hl : 32 ≤ ((b.drop q).length : Int) := by rw [List.length_drop]; omega
    rw [if_pos rfl, if_pos hl]
    show (List.take 32 _, true, List.drop 32 (b.drop q), (0 : Int)) = _
    rw [List.drop_drop]
  unfold keyR
  rw [ht]
  rfl
theorem C_arr0 {k : IntKind} {w : World} {g : Nat} {xs : List Int} {t : TypeId} (hg : w.heap[g]? = some (.cells (arr k xs) t (0, 0))) (h : xs.length ≤ maxLen) : Kd.C (Kd.int k) w (some ⟨g, 0, none⟩) xs.length xs := by
  refine ⟨rfl, h, fun hp => ⟨_, rfl, fun j p hj => ⟨[.int k p], rfl, rfl, fun i u hu => ?_⟩⟩⟩
  cases i with
  | zero =>
    have hlt := (List.getElem?_eq_some_iff.1 hj).1
    have e : u = .int k p := by simpa using hu.symm
    subst e
    have e2 : (⟨g, 0, none⟩ : Addr).add (j * (Kd.int k).sz + 0) = ⟨g, j, none⟩ := by
      rw [show (Kd.int k).sz = 1 from rfl]
      simp [Addr.add_lit]
    rw [e2, cell_of_row w g j _ t (0, 0) hg, arr_get k xs j hlt]
    unfold rd
    rw [List.getD_eq_getElem?_getD]
    simp [hj]
  | succ i => simp at hu
set_option maxHeartbeats 8000000 in
set_option maxRecDepth 100000 in
theorem next0 {w wr : World} {g : Nat} {b : List Int} (B : Option Addr) (cB : Nat) (q : Nat) (z : Int) (hz : z = (q : Int)) (hq : q ≤ b.length) (hl : b.length ≤ 300) (hby : Bytes b) (hC : Kd.C (Kd.int .u8) w B b.length b) (hc : b.length ≤ cB) (s : RSt w g (b.drop q) 0 wr) (most : Int) : Calls Try.prog 58 #[.pointer (some ⟨g, 0, none⟩), .int .i64 0, .int .i64 most, .slice B b.length cB, .int .i64 z] wr (NextPost w g b) := by
  by_cases h : q < b.length
  · have hd : decide (z ≥ (b.length : Int)) = false := decide_eq_false (by omega)
    have p1 := eq_true (show (0 : Int) ≤ z by omega)
    have q1 := eq_true (show z < (b.length : Int) by omega)
    have hw : wrap64 (z + 1) = ((q + 1 : Nat) : Int) := by rw [w64 (by omega) (by omega)]; omega
    obtain ⟨ad, e1, hx⟩ := Kd.at_int hC z (by omega) (by omega)
    cases e1
    have HF := Aside0.mk (show codec_Reader_Byte.f (b.drop q) 0 = some (rd b z, b.drop (q + 1), 0) by rw [hz]; exact byte_at h)
    have HW := Aside0.mk hw
    have HH := Aside0.mk h
    have HS := Aside0.mk s
    have HC := Aside0.mk hC
    have HCC := Aside0.mk hc
    have HL := Aside0.mk hl
    have HBY := Aside0.mk hby
    have HQ := Aside0.mk hq
    have HZ := Aside0.mk hz
    clear s hC hc hl hby hq hz
    clear hw h
    go_enter Try.func58, Try.ntmps58
    go_wp2_with (first
      | (go_at_call 53; refine (HS.out.byte HF.out).mono ?_; rintro en w1 ⟨rfl, hs⟩; have hx1 := (hs.below.cell (World.block_lt_of_cell? w _ hx)).trans hx; have HS1 := Aside0.mk hs; clear hs))
    go_ret3
    exact ⟨wrap64 (z + 1), 0, _, rfl, HS1.out, by decide, by decide, ⟨_, rfl⟩, fun _ => ⟨q + 1, HW.out, by have := HH.out; omega, rfl⟩⟩
  · have hd : decide (z ≥ (b.length : Int)) = true := decide_eq_true (by omega)
    have HF := Aside0.mk (show codec_Reader_Byte.f (b.drop q) 0 = some (0, b.drop q, 4) from byte_end (by omega))
    have HS := Aside0.mk s
    have HC := Aside0.mk hC
    have HCC := Aside0.mk hc
    have HL := Aside0.mk hl
    have HBY := Aside0.mk hby
    have HQ := Aside0.mk hq
    have HZ := Aside0.mk hz
    clear s hC hc hl hby hq hz
    clear h
    go_enter Try.func58, Try.ntmps58
    go_wp2_with (first
      | (go_at_call 53; refine (HS.out.byte HF.out).mono ?_; rintro en w1 ⟨rfl, hs⟩; have HS1 := Aside0.mk hs; clear hs))
    go_ret3
    exact ⟨z, 4, _, rfl, HS1.out, by decide, by decide, ⟨_, rfl⟩, fun h => absurd h (by decide)⟩
set_option maxHeartbeats 8000000 in
set_option maxRecDepth 100000 in
theorem next1 {w wr : World} {g : Nat} {b : List Int} (B : Option Addr) (cB : Nat) (q : Nat) (z : Int) (hz : z = (q : Int)) (hq : q ≤ b.length) (hl : b.length ≤ 300) (hby : Bytes b) (hC : Kd.C (Kd.int .u8) w B b.length b) (hc : b.length ≤ cB) (s : RSt w g (b.drop q) 0 wr) (most : Int) : Calls Try.prog 58 #[.pointer (some ⟨g, 0, none⟩), .int .i64 1, .int .i64 most, .slice B b.length cB, .int .i64 z] wr (NextPost w g b) := by
  have hbd : Bytes (b.drop q) := fun x hx => hby x (List.mem_of_mem_drop hx)
  obtain ⟨zt, hre, hrt⟩ := ref_ev b hby (by omega) q hq
  obtain ⟨kr, hkr⟩ := hre.rounds
  obtain ⟨kn, hkn⟩ := (num_ev (b.drop q) hbd 0).rounds
  obtain ⟨_, _, _, n3, n4, j, hj, hdj⟩ := numR_facts (b.drop q) hbd 0 (by decide)
  rw [List.drop_drop] at hdj
  rw [← hz] at hkr
  generalize numR (b.drop q) 0 = R at *
  obtain ⟨x, rest', code⟩ := R
  have HN := Aside0.mk hkn
  have HR := Aside0.mk hkr
  have HT := Aside0.mk hrt
  have H3 := Aside0.mk n3
  have H4 := Aside0.mk n4
  have HJ := Aside0.mk (show rest' = b.drop _ from hdj)
  clear hkn hkr hrt hre n3 n4 hbd hj hdj
  have HS := Aside0.mk s
  have HC := Aside0.mk hC
  have HCC := Aside0.mk hc
  have HL := Aside0.mk hl
  have HBY := Aside0.mk hby
  have HQ := Aside0.mk hq
  have HZ := Aside0.mk hz
  clear s hC hc hl hby hq hz
  go_enter Try.func58, Try.ntmps58
  go_wp2_with (first
    | (go_at_call 48; refine (HS.out.number kn HN.out).mono ?_; rintro en w1 ⟨rfl, hs⟩; have HS1 := Aside0.mk hs; clear hs)
    | (go_at_call 84; refine (batonref06_ReadNumber.calls kr B cB b z x zt code _ (Kd.C_below HC.out HS1.out.below) HCC.out HR.out).mono ?_; rintro en w2 ⟨rfl, hd⟩; have HS2 := Aside0.mk (HS1.out.later (below_of_drawn hd)); clear hd))
  go_ret3
  exact ⟨zt, code, rest', rfl, HS2.out, H3.out, H4.out, ⟨_, HJ.out⟩, HT.out⟩
set_option maxHeartbeats 8000000 in
set_option maxRecDepth 100000 in
theorem next2 {w wr : World} {g : Nat} {b : List Int} (B : Option Addr) (cB : Nat) (q : Nat) (z : Int) (hz : z = (q : Int)) (hq : q ≤ b.length) (hl : b.length ≤ 300) (hby : Bytes b) (hC : Kd.C (Kd.int .u8) w B b.length b) (hc : b.length ≤ cB) (s : RSt w g (b.drop q) 0 wr) (most : Int) : Calls Try.prog 58 #[.pointer (some ⟨g, 0, none⟩), .int .i64 2, .int .i64 most, .slice B b.length cB, .int .i64 z] wr (NextPost w g b) := by
  have hbd : Bytes (b.drop q) := fun x hx => hby x (List.mem_of_mem_drop hx)
  obtain ⟨zt, hre, hrt⟩ := ref_ev b hby (by omega) q hq
  obtain ⟨kr, hkr⟩ := hre.rounds
  obtain ⟨kn, hkn⟩ := (sgn_ev (b.drop q) hbd 0 (by decide)).rounds
  obtain ⟨n1, n2, _, n3, n4, j, hj, hdj⟩ := numR_facts (b.drop q) hbd 0 (by decide)
  rw [List.drop_drop] at hdj
  unfold sgnR at hkn
  have hrs := refS _ n1 n2
  rw [← hz] at hkr
  generalize numR (b.drop q) 0 = R at *
  obtain ⟨x, rest', code⟩ := R
  have HRS := Aside0.mk hrs
  clear hrs n1 n2
  have HN := Aside0.mk hkn
  have HR := Aside0.mk hkr
  have HT := Aside0.mk hrt
  have H3 := Aside0.mk n3
  have H4 := Aside0.mk n4
  have HJ := Aside0.mk (show rest' = b.drop _ from hdj)
  clear hkn hkr hrt hre n3 n4 hbd hj hdj
  have HS := Aside0.mk s
  have HC := Aside0.mk hC
  have HCC := Aside0.mk hc
  have HL := Aside0.mk hl
  have HBY := Aside0.mk hby
  have HQ := Aside0.mk hq
  have HZ := Aside0.mk hz
  clear s hC hc hl hby hq hz
  go_enter Try.func58, Try.ntmps58
  go_wp2_with (first
    | (go_at_call 54; refine (HS.out.signed kn HN.out).mono ?_; rintro en w1 ⟨rfl, hs⟩; have HS1 := Aside0.mk hs; clear hs)
    | (go_at_call 84; refine (batonref06_ReadNumber.calls kr B cB b z x zt code _ (Kd.C_below HC.out HS1.out.below) HCC.out HR.out).mono ?_; rintro en w2 ⟨rfl, hd⟩; have HS2 := Aside0.mk (HS1.out.later (below_of_drawn hd)); clear hd)
    | (go_at_call 85; refine (batonref06_Signed.calls _ x _ HRS.out).mono ?_; rintro en w3 ⟨rfl, hd⟩; have HS3 := Aside0.mk (HS2.out.later (below_of_drawn hd)); clear hd))
  go_ret3
  exact ⟨zt, code, rest', rfl, HS3.out, H3.out, H4.out, ⟨_, HJ.out⟩, HT.out⟩
set_option maxHeartbeats 8000000 in
set_option maxRecDepth 100000 in
theorem next3 {w wr : World} {g : Nat} {b : List Int} (B : Option Addr) (cB : Nat) (q : Nat) (z : Int) (hz : z = (q : Int)) (hq : q ≤ b.length) (hl : b.length ≤ 300) (hby : Bytes b) (hC : Kd.C (Kd.int .u8) w B b.length b) (hc : b.length ≤ cB) (s : RSt w g (b.drop q) 0 wr) (most : Int) : Calls Try.prog 58 #[.pointer (some ⟨g, 0, none⟩), .int .i64 3, .int .i64 most, .slice B b.length cB, .int .i64 z] wr (NextPost w g b) := by
  have hbd : Bytes (b.drop q) := fun x hx => hby x (List.mem_of_mem_drop hx)
  have hbl : (b.drop q).length ≤ 1000000 := by rw [List.length_drop]; omega
  obtain ⟨zt, hre, hrt⟩ := reft_ev b hby (by omega) q hq most
  obtain ⟨kr, hkr⟩ := hre.rounds
  obtain ⟨kn, hkn⟩ := (text_ev (b.drop q) hbd hbl 0 most (by decide)).rounds
  obtain ⟨n1, n3, n4, j, hdj⟩ := textR_facts (b.drop q) hbd 0 most hbl (by decide)
  rw [List.drop_drop] at hdj
  rw [← hz] at hkr
  generalize textR (b.drop q) 0 most = R at *
  obtain ⟨x, rest', code⟩ := R
  obtain ⟨ks, hks⟩ := same_f x n1
  have HSM := Aside0.mk hks
  have HN := Aside0.mk hkn
  have HR := Aside0.mk hkr
  have HT := Aside0.mk hrt
  have H3 := Aside0.mk n3
  have H4 := Aside0.mk n4
  have HJ := Aside0.mk (show rest' = b.drop _ from hdj)
  clear hkn hkr hrt hre n3 n4 hbd hdj hks n1 hbl
  have HS := Aside0.mk s
  have HC := Aside0.mk hC
  have HCC := Aside0.mk hc
  have HL := Aside0.mk hl
  have HBY := Aside0.mk hby
  have HQ := Aside0.mk hq
  have HZ := Aside0.mk hz
  clear s hC hc hl hby hq hz
  go_enter Try.func58, Try.ntmps58
  go_wp2_with (first
    | (go_at_call 55; refine (HS.out.text kn most HN.out).mono ?_; rintro en w1 ⟨Ax, cx, rfl, hcx, hCx, hs⟩; have HS1 := Aside0.mk hs; have HCX := Aside0.mk hCx; have HLX := Aside0.mk hcx; clear hs hcx hCx)
    | (go_at_call 86; refine (batonref06_ReadText.calls kr (fun k => k < w.heap.size) B cB b z most x zt code w1 (V_in HC.out HCC.out HS1.out.below w1.heap.size) HR.out).mono ?_; rintro en w2 ⟨v2, rfl, hV, hd⟩; obtain ⟨At, ct, rfl⟩ := Kd.V_slice hV; have HCT := Aside0.mk (Kd.V_reads' hV).2.2; have HLT := Aside0.mk (Kd.V_reads' hV).2.1; have HS2 := Aside0.mk (HS1.out.later hd); have HCX2 := Aside0.mk (Kd.C_below HCX.out hd); clear hV hd)
    | (go_at_call 17; refine (batonref01_Same.calls ks Ax cx x At ct x true w2 HCX2.out HLX.out HCT.out HLT.out HSM.out).mono ?_; rintro en w3 ⟨rfl, hd⟩; have HS3 := Aside0.mk (HS2.out.later (below_of_drawn hd)); clear hd))
  go_ret3
  exact ⟨zt, code, rest', rfl, HS3.out, H3.out, H4.out, ⟨_, HJ.out⟩, HT.out⟩
def Cn58_23.T : Bool × List (List Nat × List Nat) := (true, [([], []), ([], []), ([], []), ([], []), ([3], [3]), ([1, 2, 4], [1, 2, 4]), ([0, 5], [0, 5]), ([], []), ([7], [7]), ([6, 6, 0, 1, 2, 3, 4, 5, 6], [6]), ([8, 9, 0, 1, 2, 3, 4, 5, 6, 7, 8, 9], [8]), ([10, 0, 1, 2, 3, 4, 5, 6, 7, 8, 9, 10], [])])
def Cn58_23.B : List Nat := [0, 0, 0, 0, 8, 30, 63, 0, 128, 127, 1023, 2047]
theorem Cn58_23.tab : rtab .any (opsOf Try.f58 23) = Cn58_23.T := by kernel_rfl
theorem Cn58_23.bits : waitsOk Cn58_23.T.2 Cn58_23.B = true := by kernel_rfl
set_option maxHeartbeats 8000000 in
set_option maxRecDepth 100000 in
theorem next4 {w wr : World} {g : Nat} {b : List Int} (B : Option Addr) (cB : Nat) (q : Nat) (z : Int) (hz : z = (q : Int)) (hq : q ≤ b.length) (hl : b.length ≤ 300) (hby : Bytes b) (hC : Kd.C (Kd.int .u8) w B b.length b) (hc : b.length ≤ cB) (s : RSt w g (b.drop q) 0 wr) (most : Int) : Calls Try.prog 58 #[.pointer (some ⟨g, 0, none⟩), .int .i64 4, .int .i64 most, .slice B b.length cB, .int .i64 z] wr (NextPost w g b) := by
  by_cases h : q + 32 ≤ b.length
  · have hkw := s.key_walk
    rw [keyR_mid h] at hkw
    have HKW := Aside0.mk hkw
    clear hkw
    have hw1 : wrap64 (z + 32) = ((q + 32 : Nat) : Int) := by rw [w64 (by omega) (by omega)]; omega
    have h5 : (Try.prog.info? 5).map (·.size) = some 1 := by kernel_rfl
    obtain ⟨i5, hi5, hs5⟩ := Option.map_eq_some_iff.1 h5
    have hcm := cut_mid (P := Try.prog) 28 5 .i64 .i64 Try.underlying28 hi5 1 hs5 B b.length cB z (wrap64 (z + 32)) (by omega) (by rw [hw1]; omega) (by rw [hw1]; omega) hc
    have hcc := fun {W : World} (h : Kd.C (Kd.int .u8) W B b.length b) => Kd.C_mid h (show q ≤ q + 32 by omega) (show q + 32 ≤ b.length from by omega) hc
    have hzt : z.toNat = q := by omega
    have hmid : (b.take (q + 32)).drop q = (b.drop q).take 32 := by rw [List.drop_take]; congr 1; omega
    have e32 : (wrap64 (z + 32)).toNat - z.toNat = 32 := by rw [hw1, hzt]; omega
    have hll : ((b.drop q).take 32).length = 32 := by rw [List.length_take, List.length_drop]; omega
    rw [e32, hzt, Nat.mul_one] at hcm
    rw [hmid, hll, show (Kd.int .u8).sz = 1 from rfl, Nat.mul_one] at hcc
    have hc2 : 32 ≤ cB - q := by omega
    generalize (if cB = q then B else B.map (·.add q)) = B2 at hcm hcc
    generalize cB - q = c2 at hcm hc2
    have hd : decide (wrap64 ((b.length : Int) - z) < 32) = false := decide_eq_false (by rw [w64 (by omega) (by omega)]; omega)
    generalize (b.drop q).take 32 = x at *
    obtain ⟨ks, hks⟩ := same_f x (by omega)
    have HSM := Aside0.mk (fun (g2 : Nat) (W : World) (h1 : Kd.C (Kd.int .u8) W (some ⟨g2, 0, none⟩) x.length x ∧ Kd.C (Kd.int .u8) W B2 x.length x) => batonref01_Same.calls ks (some ⟨g2, 0, none⟩) x.length x B2 c2 x true W h1.1 (Nat.le_refl _) h1.2 (by omega) hks)
    rw [hll] at HSM
    have HLX := Aside0.mk hll
    have HCC2 := Aside0.mk @hcc
    have HW := Aside0.mk hw1
    have HH := Aside0.mk h
    have HS := Aside0.mk s
    have HC := Aside0.mk hC
    have HCC := Aside0.mk hc
    have HL := Aside0.mk hl
    have HBY := Aside0.mk hby
    have HQ := Aside0.mk hq
    have HZ := Aside0.mk hz
    clear s hC hc hl hby hq hz
    clear h5 hi5 hs5 h hw1 hcc hzt hmid e32 hll hc2 hks
    go_enter Try.func58, Try.ntmps58
    go_wp2_with (first
      | (go_at_call 56; refine HKW.out.mono ?_; rintro en w1 ⟨rfl, hs⟩; have HS1 := Aside0.mk hs; clear hs)
      | ((with_reducible refine gate_dst (N := 26) rfl ?_); refine L_alloc rfl 90 rfl (.agg (arr .u8 Z32)) 32 (by kernel_rfl) ?_; intro g2 w2 hb hg hs hl; have HB2 := Aside0.mk hb; have HS2 := Aside0.mk (HS1.out.later hl); have HG2 := Aside0.mk hg; have HL2 := Aside0.mk hl; clear hb hg hs hl)
      | (refine L_store rfl rfl 90 (.tmp 26) (.tmp 102) (by rfl) g2 (arr .u8 x) (by rfl) (by rfl) (arr .u8 Z32) 90 HB2.out (by rw [arr_size, arr_size, HLX.out]; rfl) (by rw [arr_size, HLX.out]; kernel_rfl) (arr_one _ _) ?_; intro w3 hb3 hu3; have HB3 := Aside0.mk hb3; have HS3 := Aside0.mk (HS1.out.later (hu3.below HL2.out (Nat.le_of_eq HG2.out))); clear hb3 hu3))
    have HC3 : Aside0 (Kd.C (Kd.int .u8) w3.drew (some ⟨g2, 0, none⟩) 32 x ∧ Kd.C (Kd.int .u8) w3.drew B2 32 x) := by
      refine ⟨?_, HCC2.out (Kd.C_below HC.out (HS3.out.later (below_drew (Below.refl _ _))).below)⟩
      have := C_arr0 HB3.out (by rw [HLX.out]; decide)
      rw [HLX.out] at this
      exact Kd.C_below this (below_drew (Below.refl _ _))
    refine start_ (n := 12) (S := fun w' => True) (ds := []) #[false, false, false, false, false, false, false, false, false, false, false, false] (by kernel_rfl) rfl rfl (trivial) (fun hHeld => ?_); refine with_tabW Cn58_23.tab Cn58_23.bits (fun HT_ HW_ => ?_)
    refine pure_ (i := 0) (N := some 112) (v := ?_) (a' := ?_) #[true, false, false, false, false, false, false, false, false, false, false, false] rfl rfl (any_of HT_.out (by kernel_rfl)) (fun _ _ _ h => h) (Or.inl ⟨by rfl, ?_⟩) ?_ ?_
    rotate_left
    · intro w'
      go_simp
      with_reducible rfl
    rotate_left
    · simp only [Act.put, List.setIfInBounds_toArray, List.set_cons_zero, List.set_cons_succ, i64_w, i32_w]
      rfl
    refine pure_ (i := 1) (N := some 113) (v := ?_) (a' := ?_) #[true, true, false, false, false, false, false, false, false, false, false, false] rfl rfl (any_of HT_.out (by kernel_rfl)) (fun _ _ _ h => h) (Or.inl ⟨by rfl, ?_⟩) ?_ ?_
    rotate_left
    · intro w'
      go_simp
      with_reducible rfl
    rotate_left
    · simp only [Act.put, List.setIfInBounds_toArray, List.set_cons_zero, List.set_cons_succ, i64_w, i32_w]
      rfl
    refine pure_ (i := 2) (N := some 114) (v := ?_) (a' := ?_) #[true, true, true, false, false, false, false, false, false, false, false, false] rfl rfl (any_of HT_.out (by kernel_rfl)) (fun _ _ _ h => h) (Or.inl ⟨by rfl, ?_⟩) ?_ ?_
    rotate_left
    · intro w'
      go_simp
      with_reducible rfl
    rotate_left
    · simp only [Act.put, List.setIfInBounds_toArray, List.set_cons_zero, List.set_cons_succ, i64_w, i32_w]
      rfl
    refine pure_ (i := 3) (N := some 115) (v := ?_) (a' := ?_) #[true, true, true, true, false, false, false, false, false, false, false, false] rfl rfl (any_of HT_.out (by kernel_rfl)) (fun _ _ _ h => h) (Or.inl ⟨by rfl, ?_⟩) ?_ ?_
    rotate_left
    · intro w'
      go_simp
      with_reducible rfl
    rotate_left
    · simp only [Act.put, List.setIfInBounds_toArray, List.set_cons_zero, List.set_cons_succ, i64_w, i32_w]
      rfl
    refine pure_ (i := 4) (N := some 116) (v := ?_) (a' := ?_) #[true, true, true, true, true, false, false, false, false, false, false, false] rfl rfl (any_of HT_.out (by kernel_rfl)) (fun _ _ _ h => h) (Or.inl ⟨by rfl, ?_⟩) ?_ ?_
    rotate_left
    · intro w'
      go_simp
      with_reducible rfl
    rotate_left
    · simp only [Act.put, List.setIfInBounds_toArray, List.set_cons_zero, List.set_cons_succ, i64_w, i32_w]
      rfl
    refine pure_ (i := 5) (N := some 117) (v := ?_) (a' := ?_) #[true, true, true, true, true, true, false, false, false, false, false, false] rfl rfl (any_of HT_.out (by kernel_rfl)) (fun _ _ _ h => h) (Or.inl ⟨by rfl, ?_⟩) ?_ ?_
    rotate_left
    · intro w'
      go_simp
      with_reducible rfl
    rotate_left
    · simp only [Act.put, List.setIfInBounds_toArray, List.set_cons_zero, List.set_cons_succ, i64_w, i32_w]
      rfl
    refine pure_ (i := 7) (N := some 119) (v := ?_) (a' := ?_) #[true, true, true, true, true, true, false, true, false, false, false, false] rfl rfl (any_of HT_.out (by kernel_rfl)) (fun _ _ _ h => h) (Or.inl ⟨by rfl, ?_⟩) ?_ ?_
    rotate_left
    · intro w'
      go_simp
      with_reducible rfl
    rotate_left
    · simp only [Act.put, List.setIfInBounds_toArray, List.set_cons_zero, List.set_cons_succ, i64_w, i32_w]
      rfl
    refine pure_ (i := 8) (N := some 120) (v := ?_) (a' := ?_) #[true, true, true, true, true, true, false, true, true, false, false, false] rfl rfl (any_of HT_.out (by kernel_rfl)) (fun _ _ _ h => h) (Or.inl ⟨by rfl, ?_⟩) ?_ ?_
    rotate_left
    · intro w'
      go_simp
      with_reducible rfl
    rotate_left
    · simp only [Act.put, List.setIfInBounds_toArray, List.set_cons_zero, List.set_cons_succ, i64_w, i32_w]
      rfl
    refine one_ (i := 6) (N := some 118) #[true, true, true, true, true, true, true, true, true, false, false, false] rfl rfl (one_of HT_.out (by kernel_rfl)) (by decide) (fun K hK => ?_)
    refine goes_ Try.func17 (by kernel_rfl) rfl #[.slice (some ⟨g2, 0, none⟩) 32 32, .slice B2 32 c2] (by rfl) rfl rfl (by (try simp only [List.map_toArray, List.map_cons, List.map_nil]); first | done | rfl) ?_
    refine (HSM.out g2 w3.drew HC3.out).mono ?_
    rintro e w6 ⟨rfl, hd6⟩
    have HS6 := Aside0.mk ((HS3.out.later (below_drew (Below.refl _ _))).later (below_of_drawn hd6))
    clear hd6
    refine ⟨_, rfl, ?_⟩
    refine hK.out _ _ trivial (fun hHeld => ?_)
    clear hK K
    refine pure_ (i := 9) (N := some 10) (v := ?_) (a' := ?_) #[true, true, true, true, true, true, true, true, true, true, false, false] rfl rfl (any_of HT_.out (by kernel_rfl)) (fun _ _ _ h => h) (Or.inl ⟨by rfl, ?_⟩) ?_ ?_
    rotate_left
    · intro w'
      go_simp
      with_reducible rfl
    rotate_left
    · simp only [Act.put, List.setIfInBounds_toArray, List.set_cons_zero, List.set_cons_succ, i64_w, i32_w]
      rfl
    refine pure_ (i := 10) (N := some 11) (v := ?_) (a' := ?_) #[true, true, true, true, true, true, true, true, true, true, true, false] rfl rfl (any_of HT_.out (by kernel_rfl)) (fun _ _ _ h => h) (Or.inl ⟨by rfl, ?_⟩) ?_ ?_
    rotate_left
    · intro w'
      go_simp
      with_reducible rfl
    rotate_left
    · simp only [Act.put, List.setIfInBounds_toArray, List.set_cons_zero, List.set_cons_succ, i64_w, i32_w]
      rfl
    refine pure_ (i := 11) (N := some 12) (v := ?_) (a' := ?_) #[true, true, true, true, true, true, true, true, true, true, true, true] rfl rfl (any_of HT_.out (by kernel_rfl)) (fun _ _ _ h => h) (Or.inl ⟨by rfl, ?_⟩) ?_ ?_
    rotate_left
    · intro w'
      go_simp
      with_reducible rfl
    rotate_left
    · simp only [Act.put, List.setIfInBounds_toArray, List.set_cons_zero, List.set_cons_succ, i64_w, i32_w]
      rfl
    refine done_ (done_of HT_.out (by kernel_rfl)) ?_
    go_wp2
    go_ret3
    exact ⟨wrap64 (z + 32), 0, _, rfl, HS6.out, by decide, by decide, ⟨_, rfl⟩, fun _ => ⟨q + 32, HW.out, HH.out, rfl⟩⟩
  · have hkw := s.key_walk
    rw [keyR_end h] at hkw
    have HKW := Aside0.mk hkw
    clear hkw
    have hd : decide (wrap64 ((b.length : Int) - z) < 32) = true := decide_eq_true (by rw [w64 (by omega) (by omega)]; omega)
    have HS := Aside0.mk s
    have HC := Aside0.mk hC
    have HCC := Aside0.mk hc
    have HL := Aside0.mk hl
    have HBY := Aside0.mk hby
    have HQ := Aside0.mk hq
    have HZ := Aside0.mk hz
    clear s hC hc hl hby hq hz
    clear h
    go_enter Try.func58, Try.ntmps58
    go_wp2_with (first
      | (go_at_call 56; refine HKW.out.mono ?_; rintro en w1 ⟨rfl, hs⟩; have HS1 := Aside0.mk hs; clear hs)
      | ((with_reducible refine gate_dst (N := 26) rfl ?_); refine L_alloc rfl 90 rfl (.agg (arr .u8 Z32)) 32 (by kernel_rfl) ?_; intro g2 w2 hb hg hs hl; have HB2 := Aside0.mk hb; have HS2 := Aside0.mk (HS1.out.later hl); have HG2 := Aside0.mk hg; have HL2 := Aside0.mk hl; clear hb hg hs hl)
      | (refine L_store rfl rfl 90 (.tmp 26) (.tmp 102) (by rfl) g2 (arr .u8 Z32) (by rfl) (by rfl) (arr .u8 Z32) 90 HB2.out (by rw [arr_size]) (by rw [arr_size]; kernel_rfl) (arr_one _ _) ?_; intro w3 hb3 hu3; have HB3 := Aside0.mk hb3; have HS3 := Aside0.mk (HS1.out.later (hu3.below HL2.out (Nat.le_of_eq HG2.out))); clear hb3 hu3)
      | ((with_reducible refine gate_dst (N := 108) rfl ?_); refine L_load rfl 90 (.tmp 26) rfl g2 rfl 90 (arr .u8 Z32) _ HB3.out Try.underlying90 rfl (by kernel_rfl) ?_)
      | ((with_reducible refine gate_dst (N := 109) rfl ?_); refine Kd.event_run rfl (v := .agg (arr .u8 Z32)) (w1 := w3) (by go_simp; rfl) ?_)
      | ((with_reducible refine gate_dst (N := 110) rfl ?_); refine L_eqarr rfl 90 5 32 .u8 (.tmp 108) (.tmp 109) 90 rfl Try.underlying90 Try.underlying5 (by kernel_rfl) (by kernel_rfl) Z32 Z32 rfl rfl rfl rfl true (by decide) ?_))
    go_ret3
    exact ⟨z, 4, _, rfl, HS3.out, by decide, by decide, ⟨_, rfl⟩, fun h => absurd h (by decide)⟩
set_option maxHeartbeats 8000000 in
set_option maxRecDepth 100000 in
theorem next5 {w wr : World} {g : Nat} {b : List Int} (B : Option Addr) (cB : Nat) (q : Nat) (z : Int) (hz : z = (q : Int)) (hq : q ≤ b.length) (hl : b.length ≤ 300) (hby : Bytes b) (hC : Kd.C (Kd.int .u8) w B b.length b) (hc : b.length ≤ cB) (s : RSt w g (b.drop q) 0 wr) (most : Int) (kind : Int) (h0 : (kind == 0) = false) (h1 : (kind == 1) = false) (h2 : (kind == 2) = false) (h3 : (kind == 3) = false) (h4 : (kind == 4) = false) : Calls Try.prog 58 #[.pointer (some ⟨g, 0, none⟩), .int .i64 kind, .int .i64 most, .slice B b.length cB, .int .i64 z] wr (NextPost w g b) := by
  by_cases h : q < b.length
  · have hd : decide (z ≥ (b.length : Int)) = false := decide_eq_false (by omega)
    have p1 := eq_true (show (0 : Int) ≤ z by omega)
    have q1 := eq_true (show z < (b.length : Int) by omega)
    have hw : wrap64 (z + 1) = ((q + 1 : Nat) : Int) := by rw [w64 (by omega) (by omega)]; omega
    obtain ⟨ad, e1, hx⟩ := Kd.at_int hC z (by omega) (by omega)
    cases e1
    have hx0 : 0 ≤ rd b z ∧ rd b z < 256 := by
      rw [hz, rd_lt h]
      have := hby _ (List.getElem_mem h)
      omega
    have hbf : codec_Reader_Bool.f (b.drop q) 0 = some (boolR (b.drop q) 0) := bool_f _ _
    have hbr : boolR (b.drop q) 0 = (rd b z == 1, b.drop (q + 1), if rd b z > 1 then 6 else 0) := by
      unfold boolR byteR
      rw [drop_at h, ← hz]
      rfl
    rw [hbr] at hbf
    have HW := Aside0.mk hw
    have HH := Aside0.mk h
    clear hbr
    generalize rd b z = x at *
    by_cases hx1 : x > 1
    · rw [if_pos hx1, show (x == 1) = false by rw [beq_eq_false_iff_ne]; omega] at hbf
      have HF := Aside0.mk hbf
      have hd2 : decide (x > 1) = true := decide_eq_true hx1
      have HS := Aside0.mk s
      have HC := Aside0.mk hC
      have HCC := Aside0.mk hc
      have HL := Aside0.mk hl
      have HBY := Aside0.mk hby
      have HQ := Aside0.mk hq
      have HZ := Aside0.mk hz
      clear s hC hc hl hby hq hz
      clear hw h hbf hx0 hx1
      go_enter Try.func58, Try.ntmps58
      go_wp2_with (first
        | (go_at_call 57; refine (HS.out.bool HF.out).mono ?_; rintro en w1 ⟨rfl, hs⟩; have hx1 := (hs.below.cell (World.block_lt_of_cell? w _ hx)).trans hx; have HS1 := Aside0.mk hs; clear hs))
      go_ret3
      exact ⟨z, 6, _, rfl, HS1.out, by decide, by decide, ⟨_, rfl⟩, fun h => absurd h (by decide)⟩
    · have hd2 : decide (x > 1) = false := decide_eq_false hx1
      rcases (show x = 0 ∨ x = 1 by omega) with rfl | rfl
      · have HF := Aside0.mk hbf
        have HS := Aside0.mk s
        have HC := Aside0.mk hC
        have HCC := Aside0.mk hc
        have HL := Aside0.mk hl
        have HBY := Aside0.mk hby
        have HQ := Aside0.mk hq
        have HZ := Aside0.mk hz
        clear s hC hc hl hby hq hz
        clear hw h hbf hx0 hx1 hd2
        go_enter Try.func58, Try.ntmps58
        go_wp2_with (first
          | (go_at_call 57; refine (HS.out.bool HF.out).mono ?_; rintro en w1 ⟨rfl, hs⟩; have hx1 := (hs.below.cell (World.block_lt_of_cell? w _ hx)).trans hx; have HS1 := Aside0.mk hs; clear hs))
        go_ret3
        exact ⟨wrap64 (z + 1), 0, _, rfl, HS1.out, by decide, by decide, ⟨_, rfl⟩, fun _ => ⟨q + 1, HW.out, by have := HH.out; omega, rfl⟩⟩
      · have HF := Aside0.mk hbf
        have HS := Aside0.mk s
        have HC := Aside0.mk hC
        have HCC := Aside0.mk hc
        have HL := Aside0.mk hl
        have HBY := Aside0.mk hby
        have HQ := Aside0.mk hq
        have HZ := Aside0.mk hz
        clear s hC hc hl hby hq hz
        clear hw h hbf hx0 hx1 hd2
        go_enter Try.func58, Try.ntmps58
        go_wp2_with (first
          | (go_at_call 57; refine (HS.out.bool HF.out).mono ?_; rintro en w1 ⟨rfl, hs⟩; have hx1 := (hs.below.cell (World.block_lt_of_cell? w _ hx)).trans hx; have HS1 := Aside0.mk hs; clear hs))
        go_ret3
        exact ⟨wrap64 (z + 1), 0, _, rfl, HS1.out, by decide, by decide, ⟨_, rfl⟩, fun _ => ⟨q + 1, HW.out, by have := HH.out; omega, rfl⟩⟩
  · have hd : decide (z ≥ (b.length : Int)) = true := decide_eq_true (by omega)
    have HF := Aside0.mk (show codec_Reader_Bool.f (b.drop q) 0 = some (false, b.drop q, 4) by rw [bool_f, List.drop_of_length_le (by omega)]; rfl)
    have HS := Aside0.mk s
    have HC := Aside0.mk hC
    have HCC := Aside0.mk hc
    have HL := Aside0.mk hl
    have HBY := Aside0.mk hby
    have HQ := Aside0.mk hq
    have HZ := Aside0.mk hz
    clear s hC hc hl hby hq hz
    clear h
    go_enter Try.func58, Try.ntmps58
    go_wp2_with (first
      | (go_at_call 57; refine (HS.out.bool HF.out).mono ?_; rintro en w1 ⟨rfl, hs⟩; have HS1 := Aside0.mk hs; clear hs))
    go_ret3
    exact ⟨z, 4, _, rfl, HS1.out, by decide, by decide, ⟨_, rfl⟩, fun h => absurd h (by decide)⟩
theorem next_calls {w wr : World} {g : Nat} {b : List Int} (B : Option Addr) (cB : Nat) (q : Nat) (z : Int) (hz : z = (q : Int)) (hq : q ≤ b.length) (hl : b.length ≤ 300) (hby : Bytes b) (hC : Kd.C (Kd.int .u8) w B b.length b) (hc : b.length ≤ cB) (s : RSt w g (b.drop q) 0 wr) (most kind : Int) : Calls Try.prog 58 #[.pointer (some ⟨g, 0, none⟩), .int .i64 kind, .int .i64 most, .slice B b.length cB, .int .i64 z] wr (NextPost w g b) := by
  by_cases h0 : kind = 0
  · subst h0
    exact next0 B cB q z hz hq hl hby hC hc s most
  by_cases h1 : kind = 1
  · subst h1
    exact next1 B cB q z hz hq hl hby hC hc s most
  by_cases h2 : kind = 2
  · subst h2
    exact next2 B cB q z hz hq hl hby hC hc s most
  by_cases h3 : kind = 3
  · subst h3
    exact next3 B cB q z hz hq hl hby hC hc s most
  by_cases h4 : kind = 4
  · subst h4
    exact next4 B cB q z hz hq hl hby hC hc s most
  exact next5 B cB q z hz hq hl hby hC hc s most kind (beq_eq_false_iff_ne.mpr h0) (beq_eq_false_iff_ne.mpr h1) (beq_eq_false_iff_ne.mpr h2) (beq_eq_false_iff_ne.mpr h3) (beq_eq_false_iff_ne.mpr h4)

end Go.Proofs.Ythcpfkkddfgamaa.Cod
