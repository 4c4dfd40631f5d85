/- The law CodecReads, its own walk. No condition beside those that the statement gives. -/
import Derived.Test.YthcpfkkddfgamaaCoN
namespace Go.Proofs.Ythcpfkkddfgamaa.Cod
open Go.AnyFacts Go.Proofs.Ythcpfkkddfgamaa.Sha Go.RowKit Go.Proofs.YthcpfkkddfgamaaW.Hand Go.Proofs.YthcpfkkddfgamaaW.PrintWords Go.Proofs.YthcpfkkddfgamaaW.PrintLast Go.Proofs.YthcpfkkddfgamaaW.PrintMore Go.Proofs.Ythcpfkkddfgamaa.PF06R Go.Proofs.Ythcpfkkddfgamaa.Base Go.Proofs.Ythcpfkkddfgamaa.LF06R
attribute [local go_sem] max2_int min2_int max_two min_two max_three min_three max_four min_four
set_option linter.unusedVariables false
set_option linter.unusedSimpArgs false

theorem err_all (rest : List Int) (hb : Bytes rest) (hl : rest.length ≤ 1000000) (e most : Int) (he : e ≠ 0) (he0 : 0 ≤ e ∧ e ≤ 1000) : codec_Reader_Byte.f rest e = some (0, rest, e) ∧ (∃ k, codec_Reader_Number.f k rest e = some (0, rest, e)) ∧ (∃ k, codec_Reader_Signed.f k rest e = some (0, rest, e)) ∧ (∃ k, codec_Reader_Text.f k rest e most = some ([], rest, e)) ∧ keyR rest e = (Z32, rest, e) ∧ codec_Reader_Bool.f rest e = some (false, rest, e) ∧ codec_Reader_Fail.f rest e 7 = some (rest, e) ∧ codec_Reader_Done.f rest e = some (e, rest, e) ∧ codec_Reader_Left.f rest e = some (0, rest, e) := by
  have hn : numR rest e = (0, rest, e) := by unfold numR; rw [if_neg he]
  have ht : ∀ n, takeR rest e n = ([], false, rest, e) := fun n => by unfold takeR; rw [if_neg he]
  have hby : byteR rest e = (0, rest, e) := by unfold byteR; rw [if_neg he]
  refine ⟨by rw [byte_f, hby], ?_, ?_, ?_, ?_, ?_, ?_, ?_, ?_⟩
  · obtain ⟨k, h⟩ := (num_ev rest hb e).rounds
    exact ⟨k, by rw [h, hn]⟩
  · obtain ⟨k, h⟩ := (sgn_ev rest hb e he0).rounds
    refine ⟨k, by rw [h]; unfold sgnR; rw [hn]; rfl⟩
  · obtain ⟨k, h⟩ := (text_ev rest hb hl e most he0).rounds
    refine ⟨k, ?_⟩
    rw [h]
    unfold textR
    rw [hn]
    show some ((takeR rest (if e = 0 ∧ (0 : Int) > most then 22 else e) 0).1, (takeR rest (if e = 0 ∧ (0 : Int) > most then 22 else e) 0).2.2.1, (takeR rest (if e = 0 ∧ (0 : Int) > most then 22 else e) 0).2.2.2) = _
    rw [if_neg (fun h => he h.1), ht]
  · unfold keyR
    rw [ht]
    rfl
  · rw [bool_f]
    unfold boolR
    rw [hby]
    rfl
  · rw [fail_f, if_neg he]
  · unfold codec_Reader_Done.f
    rw [if_neg he]
  · unfold codec_Reader_Left.f
    rw [if_neg he]
theorem newR_f (l : List Int) (h : l.length ≤ 1000000) : codec_NewReader.f l = some (l, 0) := by
  unfold codec_NewReader.f
  rw [Option.bind_some, if_pos (by simp; omega)]
  rfl
theorem RSt.new' {w : World} {A : Option Addr} {c : Nat} {l : List Int} (hC : Kd.C (Kd.int .u8) w A l.length l) (hc : l.length ≤ c) (hl : l.length ≤ 1000000) {w0 : World} (hb : Below w0.heap.size w0 w) : Calls Try.prog 47 #[.slice A l.length c] w fun en w' => ∃ g, en = .returned (.pointer (some ⟨g, 0, none⟩)) ∧ RSt w0 g l 0 w' := by
  refine (codec_NewReader.calls A c l l 0 w hC hc (newR_f l hl)).mono ?_
  rintro en w' ⟨v, g, ⟨rfl, hR, hbk, hg, hB⟩⟩
  exact ⟨g, rfl, RSt.start hb hR hbk hg hB⟩
/-- The reader in the law's loop. -/
structure LSt (w : World) (g : Nat) (b : List Int) (z8 z9 : Int) (wr : World) : Prop where
  code : 0 ≤ z9 ∧ z9 ≤ 1000
  rs : ∃ rest, RSt w g rest z9 wr ∧ (∃ j, rest = b.drop j) ∧ (z9 = 0 → ∃ q : Nat, z8 = (q : Int) ∧ q ≤ b.length ∧ rest = b.drop q)
section
variable {P : Program} {ops : Array Oper} {rest : List Oper} {o : Oper} {a : Act} {W : World} {Q : Exit → Act → World → Prop}
theorem G_nearr (hw : Region.wanted o (yielded ops a.tmps) = true) (ty e : TypeId) (n : Nat) (k : IntKind) (x y : Operand) (ty2 : TypeId) (ho : o.op = .binOp .neq ty x y ty2) (ht : P.underlying ty = some (.array n e)) (he : P.underlying e = some (.int k)) (hsz : (P.info? e).map (·.size) = some 1) (hm : P.eqGuardType P.depth ty = false)
    (xs ys : List Int) (hx : a.eval x = .agg (arr k xs)) (hy : a.eval y = .agg (arr k ys)) (hlx : xs.length = n) (hly : ys.length = n) (b : Bool) (hb : decide (xs = ys) = b)
    (h : wpList P ops Q rest (a.put o.dst (.bool (!b))) W) : wpList P ops Q (o :: rest) a W := by
  have h1 : (binOp .neq ty (.agg (arr k xs)) (.agg (arr k ys))).run P W = .ok (.bool (!b)) W := by
    have := run_equalIn_arr (P := P) W 9998 ty e n k ht he hsz xs ys hlx hly
    rw [hb] at this
    simp [binOp, Op.equal, Op.maxDepth, this]
  refine Go.BigFrame.wpList_want hw fun K hK => ?_
  unfold Oper.wp
  rw [show (execOp a.eval o).run P W = .ok (.value (.bool (!b))) W by simp [execOp, ho, hx, hy, run_eqGuard_agg W .neq ty x y (arr k xs) (arr k ys) hm, h1]]
  exact hK _ _ h
theorem G_value (hw : Region.wanted o (yielded ops a.tmps) = true) (v : Value) (hrun : (execOp a.eval o).run P W = .ok (.value v) W) (h : wpList P ops Q rest (a.put o.dst v) W) : wpList P ops Q (o :: rest) a W := by
  refine Go.BigFrame.wpList_want hw fun K hK => ?_
  unfold Oper.wp
  rw [hrun]
  exact hK _ _ h
end
set_option maxHeartbeats 8000000 in
set_option maxRecDepth 100000 in
theorem CodecReads_calls (A0 : Option Addr) (c0 : Nat) (b : List Int) (A1 : Option Addr) (c1 : Nat) (kinds : List Int) (most : Int) (w : World) (hC : Kd.C (Kd.int .u8) w A0 b.length b) (hc : b.length ≤ c0) (hby : Bytes b) (hC1 : Kd.C (Kd.int .i64) w A1 kinds.length kinds) (hc1 : kinds.length ≤ c1) (hkw : ∀ x ∈ kinds, (Lit.int .i64 x).wf = true) (hmost : -9223372036854775808 ≤ most ∧ most ≤ 9223372036854775807) : Calls Try.prog 12 #[.slice A0 b.length c0, .slice A1 kinds.length c1, .int .i64 most] w fun e w' => e = .returned (.bool true) ∧ Below w.heap.size w w' := by
  obtain ⟨ka, hka⟩ := awake06.rounds
  have HA := Aside0.mk hka
  have HC := Aside0.mk hC
  have HCC := Aside0.mk hc
  have HBY := Aside0.mk hby
  have HK0 := Aside0.mk hC1
  have hpt := ptrW_true
  have hpf := ptrW_false
  clear hka hkw hC hc hby hC1 hc1 hmost
  by_cases hl : b.length > 300
  · have hd : decide ((b.length : Int) > 300) = true := decide_eq_true (by omega)
    go_enter Try.func12, Try.ntmps12
    go_wp2_with (first
      | (go_at_call 46; refine (batonlaw06_awake.calls ka true _ HA.out).mono ?_; rintro e w1 ⟨rfl, hb1⟩; have HB1 := Aside0.mk hb1; clear hb1))
    go_ret
    exact ⟨rfl, HB1.out⟩
  · by_cases hl2 : kinds.length > 30
    · have hd : decide ((b.length : Int) > 300) = false := decide_eq_false (by omega)
      have hd2 : decide ((kinds.length : Int) > 30) = true := decide_eq_true (by omega)
      go_enter Try.func12, Try.ntmps12
      go_wp2_with (first
        | (go_at_call 46; refine (batonlaw06_awake.calls ka true _ HA.out).mono ?_; rintro e w1 ⟨rfl, hb1⟩; have HB1 := Aside0.mk hb1; clear hb1))
      go_ret
      exact ⟨rfl, HB1.out⟩
    · have hd : decide ((b.length : Int) > 300) = false := decide_eq_false (by omega)
      have hd2 : decide ((kinds.length : Int) > 30) = false := decide_eq_false (by omega)
      have HL3 := Aside0.mk (show b.length ≤ 300 by omega)
      have HL := Aside0.mk (show b.length ≤ 1000000 by omega)
      have HKL := Aside0.mk (show kinds.length ≤ 30 by omega)
      clear hl hl2
      go_enter Try.func12, Try.ntmps12
      go_wp2_with (first
        | (go_at_call 46; refine (batonlaw06_awake.calls ka true _ HA.out).mono ?_; rintro e w1 ⟨rfl, hb1⟩; have HB1 := Aside0.mk hb1; clear hb1)
        | (go_at_call 47; refine (RSt.new' (Kd.C_below HC.out HB1.out) HCC.out HL.out HB1.out).mono ?_; rintro en w2 ⟨g, rfl, hs⟩; have HR := Aside0.mk hs; clear hs))
      clear hd hd2 hpt hpf
      have HST := Aside0.mk (show LSt w g b 0 0 w2 from ⟨by decide, b, HR.out, ⟨0, rfl⟩, fun _ => ⟨0, rfl, Nat.zero_le _, rfl⟩⟩)
      clear HR HA
      go_loopg [8, 9, 10] (kinds.length + 1) (fun kq v8 v9 v10 wr => ∃ (z8 z9 z : Int) (i : Nat), v8 = .int .i64 z8 ∧ v9 = .int .i64 z9 ∧ v10 = .int .i64 z ∧ Aside0 (z = (i : Int) ∧ i + kq = kinds.length + 1 ∧ i ≤ kinds.length) ∧ Aside0 (LSt w g b z8 z9 wr))
      case atStart => exact ⟨0, 0, 0, 0, rfl, rfl, rfl, ⟨⟨rfl, by omega, by omega⟩⟩, HST⟩
      case round =>
        obtain ⟨z8, z9, z, i, rfl, rfl, rfl, HK, HS⟩ := hrel
        obtain ⟨hz, hk, hil⟩ := HK.out
        cases gk with
        | zero => omega
        | succ k1 =>
          obtain ⟨hcode, rest, hrs, ⟨j, hj⟩, hq⟩ := HS.out
          have hbr : Bytes rest := by rw [hj]; exact fun x hx => HBY.out x (List.mem_of_mem_drop hx)
          have hlr : rest.length ≤ 1000000 := by have := HL.out; rw [hj, List.length_drop]; omega
          have HC9 := Aside0.mk hcode
          have HJ := Aside0.mk hj
          have HR := Aside0.mk hrs
          clear hj hrs
          by_cases hi : i < kinds.length
          · have hib : decide (z < (kinds.length : Int)) = true := decide_eq_true (by omega)
            have hw1 : wrap64 (z + 1) = ((i + 1 : Nat) : Int) := by have := HKL.out; rw [w64 (by omega) (by omega)]; omega
            have HI := Aside0.mk hi
            have HW1 := Aside0.mk hw1
            by_cases h9 : z9 = 0
            · subst h9
              obtain ⟨q, hq8, hql, rfl⟩ := hq rfl
              obtain ⟨ad, e1, hx⟩ := Kd.at_int HK0.out z (by omega) (by omega)
              cases e1
              replace hx := (HR.out.below.cell (World.block_lt_of_cell? w _ hx)).trans hx
              have p1 := eq_true (show (0 : Int) ≤ z by omega)
              have q1 := eq_true (show z < (kinds.length : Int) by omega)
              have HN := Aside0.mk (fun kind : Int => next_calls A0 c0 q z8 hq8 hql HL3.out HBY.out HC.out HCC.out HR.out most kind)
              clear hz hk hil hi hw1 hq8 hql hq hbr hlr hcode HR
              generalize rd kinds z = kd at hx
              go_wp2_with (first
                | (go_at_call 58; refine (HN.out kd).mono ?_; rintro en w3 ⟨zt, code, rest', rfl, hs, hc0, hc1, hj, hq⟩; have HR := Aside0.mk hs; have HX := Aside0.mk (And.intro (And.intro hc0 hc1) (And.intro hj hq)); clear hs hc0 hc1 hj hq)
                | (go_at_call 59; refine (HR.out.err (x := code) (rest' := rest') (e' := code) rfl).mono ?_; rintro en wx ⟨rfl, hs⟩; replace HR := Aside0.mk hs; clear hs))
              go_roundg k1
              case measure => have := HK.out.2.1; omega
              case rel => exact ⟨zt, code, wrap64 (z + 1), i + 1, rfl, rfl, rfl, ⟨HW1.out, by have := HK.out.2.1; omega, by have := HI.out; omega⟩, ⟨HX.out.1, rest', HR.out, HX.out.2.1, HX.out.2.2⟩⟩
            · obtain ⟨f53, ⟨k48, f48⟩, ⟨k54, f54⟩, ⟨k55, f55⟩, fk, f57, _, _, _⟩ := err_all rest hbr hlr z9 most h9 hcode
              have H53 := Aside0.mk f53
              have H48 := Aside0.mk f48
              have H54 := Aside0.mk f54
              have H55 := Aside0.mk f55
              have H57 := Aside0.mk f57
              have HKR := Aside0.mk fk
              have hne : (z9 != 0) = true := bne_iff_ne.mpr h9
              have H9 := Aside0.mk h9
              clear f53 f48 f54 f55 fk f57 hz hk hil hi hw1 hbr hlr hcode hq h9
              go_wp2_with (first
                | (go_at_call 53; refine (HR.out.byte H53.out).mono ?_; rintro en wx ⟨rfl, hs⟩; replace HR := Aside0.mk hs; clear hs)
                | (go_at_call 48; refine (HR.out.number k48 H48.out).mono ?_; rintro en wx ⟨rfl, hs⟩; replace HR := Aside0.mk hs; clear hs)
                | (go_at_call 54; refine (HR.out.signed k54 H54.out).mono ?_; rintro en wx ⟨rfl, hs⟩; replace HR := Aside0.mk hs; clear hs)
                | (go_at_call 55; refine (HR.out.text k55 most H55.out).mono ?_; rintro en wx ⟨Ax, cx, rfl, _, _, hs⟩; replace HR := Aside0.mk hs; clear hs)
                | (go_at_call 56; have hkw := HR.out.key_walk; rw [HKR.out] at hkw; refine hkw.mono ?_; clear hkw; rintro en wx ⟨rfl, hs⟩; replace HR := Aside0.mk hs; clear hs)
                | (go_at_call 57; refine (HR.out.bool H57.out).mono ?_; rintro en wx ⟨rfl, hs⟩; replace HR := Aside0.mk hs; clear hs)
                | ((with_reducible refine gate_dst (N := 58) rfl ?_); refine G_value (by rfl) (.agg (arr .u8 Z32)) (by go_simp; rfl) ?_)
                | ((with_reducible refine gate_dst (N := 59) rfl ?_); refine G_nearr (by rfl) 90 5 32 .u8 (.tmp 57) (.tmp 58) 90 rfl Try.underlying90 Try.underlying5 (by kernel_rfl) (by kernel_rfl) Z32 Z32 rfl rfl rfl rfl true (by decide) ?_))
              go_roundg k1
              case measure => have := HK.out.2.1; omega
              case rel => exact ⟨z8, z9, wrap64 (z + 1), i + 1, rfl, rfl, rfl, ⟨HW1.out, by have := HK.out.2.1; omega, by have := HI.out; omega⟩, ⟨HC9.out, rest, HR.out, ⟨j, HJ.out⟩, fun h => absurd h H9.out⟩⟩
          · have hib : decide (z < (kinds.length : Int)) = false := decide_eq_false (by omega)
            by_cases h9 : z9 = 0
            · subst h9
              obtain ⟨q, hq8, hql, rfl⟩ := hq rfl
              have f61 : codec_Reader_Left.f (b.drop q) 0 = some (wrap64 ((b.length : Int) - z8), b.drop q, 0) := by
                have e : wrap64 ((b.length : Int) - z8) = ((b.drop q).length : Int) := by have := HL3.out; rw [w64 (by omega) (by omega), List.length_drop]; omega
                rw [e]
                rfl
              have H61 := Aside0.mk f61
              have HN := Aside0.mk (fun (W : World) (h : Below w.heap.size w W) => RSt.new' (w := W) (w0 := W) (Kd.C_below HC.out h) HCC.out HL.out (Below.refl _ _))
              obtain ⟨g60, _, _, _, _, _, _, g49, g61⟩ := err_all b HBY.out HL.out 7 0 (by decide) (by decide)
              have g53 : codec_Reader_Byte.f b 7 = some (0, b, 7) := g60
              have g60' : codec_Reader_Fail.f b 0 7 = some (b, 7) := by rw [fail_f]; rfl
              have G53 := Aside0.mk g53
              have G60 := Aside0.mk g60'
              have G49 := Aside0.mk g49
              have G61 := Aside0.mk g61
              have HO := HR
              clear f61 g60 g49 g61 g53 g60' HR
              by_cases he : q < b.length
              · have f49 : codec_Reader_Done.f (b.drop q) 0 = some (5, b.drop q, 0) := by
                  unfold codec_Reader_Done.f
                  have : 0 < ((b.drop q).length : Int) := by rw [List.length_drop]; omega
                  rw [if_pos rfl, if_pos this]
                have H49 := Aside0.mk f49
                have hd1 : decide (z8 < (b.length : Int)) = true := decide_eq_true (by omega)
                have hd2 : (z8 == (b.length : Int)) = false := beq_eq_false_iff_ne.mpr (by omega)
                clear f49 hz hk hil hi hbr hlr hcode hq hq8 hql he
                go_wp2_with (first
                  | (go_at_call 47; refine (HN.out _ HO.out.below).mono ?_; rintro en wf ⟨gf, rfl, hs⟩; have HR := Aside0.mk hs; clear hs)
                  | (go_at_call 60; refine (HR.out.fail 7 G60.out).mono ?_; rintro en wx ⟨rfl, hs⟩; replace HR := Aside0.mk hs; clear hs)
                  | (go_at_call 53; refine (HR.out.byte G53.out).mono ?_; rintro en wx ⟨rfl, hs⟩; replace HR := Aside0.mk hs; clear hs)
                  | (go_at_call 49; with_reducible refine (HR.out.done G49.out).mono ?_; rintro en wx ⟨rfl, hs⟩; replace HR := Aside0.mk hs; clear hs)
                  | (go_at_call 61; with_reducible refine (HR.out.left G61.out).mono ?_; rintro en wx ⟨rfl, hs⟩; replace HR := Aside0.mk hs; have HQ := Aside0.mk (HO.out.later hs.below); clear hs)
                  | (go_at_call 61; with_reducible refine (HQ.out.left H61.out).mono ?_; rintro en wx ⟨rfl, hs⟩; replace HQ := Aside0.mk hs; clear hs)
                  | (go_at_call 49; with_reducible refine (HQ.out.done H49.out).mono ?_; rintro en wx ⟨rfl, hs⟩; replace HQ := Aside0.mk hs; clear hs))
                go_ret
                exact ⟨rfl, HQ.out.below⟩
              · have f49 : codec_Reader_Done.f (b.drop q) 0 = some (0, b.drop q, 0) := by
                  unfold codec_Reader_Done.f
                  have : ¬ ((b.drop q).length : Int) > 0 := by rw [List.length_drop]; omega
                  rw [if_pos rfl, if_neg this]
                have H49 := Aside0.mk f49
                have hd1 : decide (z8 < (b.length : Int)) = false := decide_eq_false (by omega)
                have hd2 : (z8 == (b.length : Int)) = true := beq_iff_eq.mpr (by omega)
                clear f49 hz hk hil hi hbr hlr hcode hq hq8 hql he
                go_wp2_with (first
                  | (go_at_call 47; refine (HN.out _ HO.out.below).mono ?_; rintro en wf ⟨gf, rfl, hs⟩; have HR := Aside0.mk hs; clear hs)
                  | (go_at_call 60; refine (HR.out.fail 7 G60.out).mono ?_; rintro en wx ⟨rfl, hs⟩; replace HR := Aside0.mk hs; clear hs)
                  | (go_at_call 53; refine (HR.out.byte G53.out).mono ?_; rintro en wx ⟨rfl, hs⟩; replace HR := Aside0.mk hs; clear hs)
                  | (go_at_call 49; with_reducible refine (HR.out.done G49.out).mono ?_; rintro en wx ⟨rfl, hs⟩; replace HR := Aside0.mk hs; clear hs)
                  | (go_at_call 61; with_reducible refine (HR.out.left G61.out).mono ?_; rintro en wx ⟨rfl, hs⟩; replace HR := Aside0.mk hs; have HQ := Aside0.mk (HO.out.later hs.below); clear hs)
                  | (go_at_call 61; with_reducible refine (HQ.out.left H61.out).mono ?_; rintro en wx ⟨rfl, hs⟩; replace HQ := Aside0.mk hs; clear hs)
                  | (go_at_call 49; with_reducible refine (HQ.out.done H49.out).mono ?_; rintro en wx ⟨rfl, hs⟩; replace HQ := Aside0.mk hs; clear hs))
                go_ret
                exact ⟨rfl, HQ.out.below⟩
            · obtain ⟨_, _, _, _, _, _, f60, f49, f61⟩ := err_all rest hbr hlr z9 most h9 hcode
              have H60 := Aside0.mk f60
              have H49 := Aside0.mk f49
              have H61 := Aside0.mk f61
              have hne : (z9 != 0) = true := bne_iff_ne.mpr h9
              clear f60 f49 f61 hz hk hil hi hbr hlr hcode hq h9
              go_wp2_with (first
                | (go_at_call 60; refine (HR.out.fail 7 H60.out).mono ?_; rintro en wx ⟨rfl, hs⟩; replace HR := Aside0.mk hs; clear hs)
                | (go_at_call 49; refine (HR.out.done H49.out).mono ?_; rintro en wx ⟨rfl, hs⟩; replace HR := Aside0.mk hs; clear hs)
                | (go_at_call 61; refine (HR.out.left H61.out).mono ?_; rintro en wx ⟨rfl, hs⟩; replace HR := Aside0.mk hs; clear hs))
              go_ret
              exact ⟨rfl, HR.out.below⟩

end Go.Proofs.Ythcpfkkddfgamaa.Cod
