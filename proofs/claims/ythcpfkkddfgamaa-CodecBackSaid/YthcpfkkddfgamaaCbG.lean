/- The law CodecBack, its own walk. No condition. -/
import Derived.Test.YthcpfkkddfgamaaCbF
namespace Go.Proofs.Ythcpfkkddfgamaa.Cod
open Go.AnyFacts Go.Proofs.Ythcpfkkddfgamaa.Sha Go.RowKit Go.Proofs.YthcpfkkddfgamaaW.Hand Go.Proofs.YthcpfkkddfgamaaW.PrintWords Go.Proofs.YthcpfkkddfgamaaW.PrintLast Go.Proofs.YthcpfkkddfgamaaW.PrintMore Go.Proofs.Ythcpfkkddfgamaa.PF06C Go.Proofs.Ythcpfkkddfgamaa.Base Go.Proofs.Ythcpfkkddfgamaa.LF06C
attribute [local go_sem] max2_int min2_int max_two min_two max_three min_three max_four min_four
set_option linter.unusedVariables false
set_option linter.unusedSimpArgs false
set_option maxHeartbeats 8000000 in
set_option maxRecDepth 100000 in
theorem CodecBack_calls (A0 : Option Addr) (c0 : Nat) (l : List It) (A1 : Option Addr) (c1 : Nat) (bh : List Int) (w : World) (hC : Kd.C kIt w A0 l.length l) (hc : l.length ≤ c0) (hwf : ∀ x ∈ l, WFIt x) (hC1 : Kd.C (Kd.int .u8) w A1 bh.length bh) (hc1 : bh.length ≤ c1) (hby : Bytes bh) : Calls Try.prog 13 #[.slice A0 l.length c0, .slice A1 bh.length c1] w fun e w' => e = .returned (.bool true) ∧ Below w.heap.size w w' := by
  obtain ⟨ka, hka⟩ := awake06.rounds
  have HA := Aside0.mk hka
  have HC := Aside0.mk hC
  have HCC := Aside0.mk hc
  have HWF := Aside0.mk hwf
  have HC1 := Aside0.mk hC1
  have HCC1 := Aside0.mk hc1
  have HBY := Aside0.mk hby
  have hpt := ptrW_true
  have hpf := ptrW_false
  clear hka hC hc hwf hC1 hc1 hby
  by_cases hfew : Few l
  · have HFW := Aside0.mk (fun (W : World) (h : Kd.C kIt W A0 l.length l) => few_yes (w := W) A0 c0 l h hfew)
    obtain ⟨h30, h300⟩ := hfew
    have HKL := Aside0.mk h30
    have HK3 := Aside0.mk h300
    clear h30 h300
    by_cases h100 : bh.length > 100
    · have hd : decide ((bh.length : Int) > 100) = true := decide_eq_true (by omega)
      clear h100
      go_enter Try.func13, Try.ntmps13
      go_wp2_with (first
        | (go_at_call 46; refine (batonlaw06_awake.calls ka true _ HA.out).mono ?_; rintro e w1 ⟨rfl, hb1⟩; have HB1 := Aside0.mk hb1; clear hb1)
        | (go_at_call 62; refine (HFW.out _ (Kd.C_below HC.out HB1.out)).mono ?_; rintro e w2 ⟨rfl, hb2⟩; have HB2 := Aside0.mk (below_step HB1.out hb2); clear hb2))
      go_ret
      exact ⟨rfl, HB2.out⟩
    · have hd : decide ((bh.length : Int) > 100) = false := decide_eq_false (by omega)
      have HBH := Aside0.mk (show bh.length ≤ 100 by omega)
      clear h100
      go_enter Try.func13, Try.ntmps13
      go_wp2_with (first
        | (go_at_call 46; refine (batonlaw06_awake.calls ka true _ HA.out).mono ?_; rintro e w1 ⟨rfl, hb1⟩; have HB1 := Aside0.mk hb1; clear hb1)
        | (go_at_call 62; refine (HFW.out _ (Kd.C_below HC.out HB1.out)).mono ?_; rintro e w2 ⟨rfl, hb2⟩; have HB2 := Aside0.mk (below_step HB1.out hb2); clear hb2)
        | (go_at_call 50; refine (codec_NewWriter.calls [] 0 _ rfl).mono ?_; rintro e w3 ⟨v0, g, ⟨rfl, hR, hbk, hg, hB⟩⟩; have HS := Aside0.mk (WSt.made HB2.out hR hbk hg hB); clear hR hbk hg hB))
      clear hd hpt hpf HA
      have HST := Aside0.mk (show Wri w g l 0 v0 (.slice none 0 0) [] 0 w3 from ⟨HS.out, ⟨Kd.R_nil _ _ _ _ _⟩, by simp, .inl rfl, fun _ => ⟨rfl, fun j _ h => absurd h (by omega)⟩⟩)
      clear HS
      go_loopg [6, 7, 8] (l.length + 1) (fun kq v6 v7 v8 wr => ∃ (z : Int) (i : Nat) (bd : Int) (vw : Value) (X : List Int), v7 = .int .i64 bd ∧ v8 = .int .i64 z ∧ Aside0 (z = (i : Int) ∧ i + kq = l.length + 1 ∧ i ≤ l.length) ∧ Aside0 (Wri w g l i vw v6 X bd wr))
      case atStart => exact ⟨0, 0, 0, v0, [], rfl, rfl, ⟨rfl, by omega, by omega⟩, HST⟩
      case round =>
        obtain ⟨z, i, bd, vw, X, rfl, rfl, HK, HWR0⟩ := hrel
        obtain ⟨hz, hk, hil⟩ := HK.out
        cases gk with
        | zero => omega
        | succ k1 =>
          by_cases hi : i < l.length
          · have hib : decide (z < (l.length : Int)) = true := decide_eq_true (by omega)
            obtain ⟨ad, e1, B, c, hc2, hC2, hl2, hcell⟩ := at_It HC.out i hi
            cases e1
            have hwr : wrap64 (z + 1) = ((i + 1 : Nat) : Int) := by have := HKL.out; rw [w64 (by omega) (by omega)]; omega
            have HWR := Aside0.mk hwr
            have HI := Aside0.mk hi
            have HX := Aside0.mk (item_at hz hcell)
            have HXC := Aside0.mk hC2
            have HXL := Aside0.mk hc2
            have HXK := Aside0.mk hl2
            have HXB := Aside0.mk (HK3.out i hi)
            have HIL := Aside0.mk (itL_len l[i] (HK3.out i hi) hl2)
            have HTK := Aside0.mk (take_flat itL l i hi)
            have HXE : Aside0 (∀ hj : i < l.length, l[i] = l[i]) := ⟨fun _ => rfl⟩
            have HW0 := Aside0.mk HWR0.out.st
            have HO0 := Aside0.mk HWR0.out.want
            have HLEN := Aside0.mk HWR0.out.len
            have HGOOD := Aside0.mk HWR0.out.good
            have HCUR := Aside0.mk HWR0.out.st.below
            have hbd := HWR0.out.code
            have p1 := eq_true (show (0 : Int) ≤ z by omega)
            have q1 := eq_true (show z < (l.length : Int) by omega)
            have hei := itE_or l[i]
            have HEI : Aside0 (∀ hj : i < l.length, itE l[i] = itE l[i]) := ⟨fun _ => rfl⟩
            clear hcell hC2 hc2 hl2 hwr hz hk hil HWR0
            generalize hxx : l[i] = x at HX HXC HXL HXK HXB HIL HTK hei
            have HXX := Aside0.mk (show ∀ hj : i < l.length, l[i] = x from fun _ => hxx)
            clear hi hxx HXE HEI
            rcases hbd with rfl | rfl
            · rcases hei with hx0 | hx1
              · have hL : wrL X 0 x = X ++ itL x := by unfold wrL; rw [if_pos rfl]
                have hE : wrE 0 x = 0 := by unfold wrE; rw [if_pos rfl]; exact hx0
                have HEX := Aside0.mk hx0
                have HG1 := Aside0.mk (HGOOD.out rfl).1
                have HG2 := Aside0.mk (HGOOD.out rfl).2
                have HLE := Aside0.mk (And.intro hL hE)
                clear hL hE
                go_wp2_with (first
                  | ((with_reducible refine gate_dst (N := 38) rfl ?_); refine L_loadlist rfl 100 (.tmp 37) rfl (ad.add (z.toNat * 35)) rfl (itC x B c) _ (HX.out _ HCUR.out) Try.underlying100 rfl (by rw [it_size x B c HXK.out]; kernel_rfl) ?_)
                  | (go_at_call 63; refine (write_calls HW0.out (by have := HKL.out; have := HK.out; have := HLEN.out; omega) x B c HXC.out HXL.out HXK.out (by have := HXB.out; omega)).mono ?_; rintro en w5 ⟨v', rfl, h1, h2⟩; rw [HLE.out.1, HLE.out.2] at h1; have HW1 := Aside0.mk h1; have HO1 := Aside0.mk (HO0.out.step h2); have HCUR := Aside0.mk h1.below; clear h1 h2)
                  | ((with_reducible refine gate_dst (N := 44) rfl ?_); refine L_loadlist rfl 100 (.tmp 43) rfl (ad.add (z.toNat * 35)) rfl (itC x B c) _ (HX.out _ HCUR.out) Try.underlying100 rfl (by rw [it_size x B c HXK.out]; kernel_rfl) ?_)
                  | (go_at_call 64; refine (bytes_calls x B c (Kd.C_below HXC.out HCUR.out) HXL.out HXK.out (by have := HXB.out; omega)).mono ?_; rintro en w6 ⟨vb, rfl, hR, hb6⟩; obtain ⟨Ab, cb, rfl, hlb, hCb⟩ := Kd.R_reads hR; have HCB := Aside0.mk hCb; have HLB := Aside0.mk hlb; have HW2 := Aside0.mk (HW1.out.later hb6); have HO2 := Aside0.mk (HO1.out.later hb6); clear hR hlb hCb hb6)
                  | ((with_reducible refine gate_builtin (b := .append) (xs := #[.tmp 51, .tmp 52]) rfl ?_); at_builtin; refine Kd.R_append_rows (Kd.int .u8) (w0 := w) w.heap.size rfl (.tmp 51) (.tmp 52) 28 5 (.int .u8 0) 1 rfl Try.underlying28 info5 rfl (by decide) (by omega) u6 X (itL x) Ab (itL x).length cb (fun k => k ≠ g ∧ some k ≠ v'.ownBlock) (fun _ => False) rfl rfl HO2.out.row HCB.out (fun _ _ h => h) (fun _ h => h.elim) HW2.out.fresh HW2.out.below (below_size HW2.out.below) (by have := HKL.out; have := HK.out; have := HLEN.out; have := HIL.out; omega) ?_; intro u' w7 ho7 hb7 hg7 hat7; have HO7 := Aside0.mk (Oth.mk (w := w) (g := g) (v := v') ho7); have HW7 := Aside0.mk (HW2.out.grown HO2.out hg7 hb7); clear ho7 hb7 hg7 hat7))
                go_roundg k1
                case measure => have := HK.out.2.1; omega
                case rel =>
                  refine ⟨wrap64 (z + 1), i + 1, 0, v', X ++ itL x, rfl, rfl, ⟨HWR.out, by have := HK.out.2.1; omega, by have := HI.out; omega⟩, ⟨HW7.out, HO7.out, by have := HLEN.out; have := HIL.out; simp only [List.length_append]; omega, .inl rfl, fun _ => ⟨by rw [HTK.out, HG1.out], fun j hj h => ?_⟩⟩⟩
                  by_cases e : j = i
                  · subst e
                    rw [HXX.out hj]
                    exact HEX.out
                  · exact HG2.out j hj (by omega)
              · have hL : wrL X 0 x = X ++ itL x := by unfold wrL; rw [if_pos rfl]
                have hE : wrE 0 x = 1 := by unfold wrE; rw [if_pos rfl]; exact hx1
                have HLE := Aside0.mk (And.intro hL hE)
                clear hL hE
                go_wp2_with (first
                  | ((with_reducible refine gate_dst (N := 38) rfl ?_); refine L_loadlist rfl 100 (.tmp 37) rfl (ad.add (z.toNat * 35)) rfl (itC x B c) _ (HX.out _ HCUR.out) Try.underlying100 rfl (by rw [it_size x B c HXK.out]; kernel_rfl) ?_)
                  | (go_at_call 63; refine (write_calls HW0.out (by have := HKL.out; have := HK.out; have := HLEN.out; omega) x B c HXC.out HXL.out HXK.out (by have := HXB.out; omega)).mono ?_; rintro en w5 ⟨v', rfl, h1, h2⟩; rw [HLE.out.1, HLE.out.2] at h1; have HW1 := Aside0.mk h1; have HO1 := Aside0.mk (HO0.out.step h2); have HCUR := Aside0.mk h1.below; clear h1 h2)
                  | ((with_reducible refine gate_dst (N := 44) rfl ?_); refine L_loadlist rfl 100 (.tmp 43) rfl (ad.add (z.toNat * 35)) rfl (itC x B c) _ (HX.out _ HCUR.out) Try.underlying100 rfl (by rw [it_size x B c HXK.out]; kernel_rfl) ?_)
                  | (go_at_call 64; refine (bytes_calls x B c (Kd.C_below HXC.out HCUR.out) HXL.out HXK.out (by have := HXB.out; omega)).mono ?_; rintro en w6 ⟨vb, rfl, hR, hb6⟩; obtain ⟨Ab, cb, rfl, hlb, hCb⟩ := Kd.R_reads hR; have HCB := Aside0.mk hCb; have HLB := Aside0.mk hlb; have HW2 := Aside0.mk (HW1.out.later hb6); have HO2 := Aside0.mk (HO1.out.later hb6); clear hR hlb hCb hb6)
                  | ((with_reducible refine gate_builtin (b := .append) (xs := #[.tmp 51, .tmp 52]) rfl ?_); at_builtin; refine Kd.R_append_rows (Kd.int .u8) (w0 := w) w.heap.size rfl (.tmp 51) (.tmp 52) 28 5 (.int .u8 0) 1 rfl Try.underlying28 info5 rfl (by decide) (by omega) u6 X (itL x) Ab (itL x).length cb (fun k => k ≠ g ∧ some k ≠ v'.ownBlock) (fun _ => False) rfl rfl HO2.out.row HCB.out (fun _ _ h => h) (fun _ h => h.elim) HW2.out.fresh HW2.out.below (below_size HW2.out.below) (by have := HKL.out; have := HK.out; have := HLEN.out; have := HIL.out; omega) ?_; intro u' w7 ho7 hb7 hg7 hat7; have HO7 := Aside0.mk (Oth.mk (w := w) (g := g) (v := v') ho7); have HW7 := Aside0.mk (HW2.out.grown HO2.out hg7 hb7); clear ho7 hb7 hg7 hat7))
                go_roundg k1
                case measure => have := HK.out.2.1; omega
                case rel => exact ⟨wrap64 (z + 1), i + 1, 1, v', X ++ itL x, rfl, rfl, ⟨HWR.out, by have := HK.out.2.1; omega, by have := HI.out; omega⟩, ⟨HW7.out, HO7.out, by have := HLEN.out; have := HIL.out; simp only [List.length_append]; omega, .inr rfl, fun h => absurd h (by decide)⟩⟩
            · have hL : wrL X 1 x = X := by unfold wrL; rw [if_neg (by decide)]
              have hE : wrE 1 x = 1 := by unfold wrE; rw [if_neg (by decide)]
              have HLE := Aside0.mk (And.intro hL hE)
              clear hL hE hei
              go_wp2_with (first
                | ((with_reducible refine gate_dst (N := 38) rfl ?_); refine L_loadlist rfl 100 (.tmp 37) rfl (ad.add (z.toNat * 35)) rfl (itC x B c) _ (HX.out _ HCUR.out) Try.underlying100 rfl (by rw [it_size x B c HXK.out]; kernel_rfl) ?_)
                | (go_at_call 63; refine (write_calls HW0.out (by have := HKL.out; have := HK.out; have := HLEN.out; omega) x B c HXC.out HXL.out HXK.out (by have := HXB.out; omega)).mono ?_; rintro en w5 ⟨v', rfl, h1, h2⟩; rw [HLE.out.1, HLE.out.2] at h1; have HW1 := Aside0.mk h1; have HO1 := Aside0.mk (HO0.out.step h2); have HCUR := Aside0.mk h1.below; clear h1 h2)
                | ((with_reducible refine gate_dst (N := 44) rfl ?_); refine L_loadlist rfl 100 (.tmp 43) rfl (ad.add (z.toNat * 35)) rfl (itC x B c) _ (HX.out _ HCUR.out) Try.underlying100 rfl (by rw [it_size x B c HXK.out]; kernel_rfl) ?_)
                | (go_at_call 64; refine (bytes_calls x B c (Kd.C_below HXC.out HCUR.out) HXL.out HXK.out (by have := HXB.out; omega)).mono ?_; rintro en w6 ⟨vb, rfl, hR, hb6⟩; obtain ⟨Ab, cb, rfl, hlb, hCb⟩ := Kd.R_reads hR; have HCB := Aside0.mk hCb; have HLB := Aside0.mk hlb; have HW2 := Aside0.mk (HW1.out.later hb6); have HO2 := Aside0.mk (HO1.out.later hb6); clear hR hlb hCb hb6))
              go_roundg k1
              case measure => have := HK.out.2.1; omega
              case rel => exact ⟨wrap64 (z + 1), i + 1, 1, v', X, rfl, rfl, ⟨HWR.out, by have := HK.out.2.1; omega, by have := HI.out; omega⟩, ⟨HW2.out, HO2.out, by have := HLEN.out; have := HIL.out; omega, .inr rfl, fun h => absurd h (by decide)⟩⟩
          · have hib : decide (z < (l.length : Int)) = false := decide_eq_false (by omega)
            have hie : i = l.length := by omega
            have hlen := HWR0.out.len
            have hbd := HWR0.out.code
            have HS := Aside0.mk HWR0.out.st
            have HO := Aside0.mk HWR0.out.want
            have HGOOD := Aside0.mk HWR0.out.good
            have hxl : X.length ≤ 100000 := by have := HKL.out; omega
            have HXLEN := Aside0.mk hxl
            subst hie
            clear hlen hxl hz hk hil hi HWR0
            rcases hbd with rfl | rfl
            · have HG1 := Aside0.mk (HGOOD.out rfl).1
              have HG2 := Aside0.mk (HGOOD.out rfl).2
              have HY0 := Aside0.mk (Bytes_ok X (by have := HXLEN.out; omega))
              have HY1 := Aside0.mk (bytes_err X 20 (by decide))
              have HF0 := Aside0.mk (show codec_Writer_Fail.f X 0 20 = some (X, 20) from rfl)
              have HF1 := Aside0.mk (show codec_Writer_Fail.f X 20 21 = some (X, 20) from rfl)
              obtain ⟨ks, hks⟩ := same_f X (by have := HXLEN.out; omega)
              have HSM := Aside0.mk hks
              have hpt := ptrW_true
              have hpf := ptrW_false
              obtain ⟨Y, hY⟩ : ∃ Y, Y = X ++ bh := ⟨_, rfl⟩
              have HYN := Aside0.mk hY
              have HYL := Aside0.mk (show Y.length ≤ 1000000 by rw [hY, List.length_append]; have := HXLEN.out; have := HBH.out; omega)
              clear hks hY
              go_wp2_with (first
                | (go_at_call 52; with_reducible refine (HS.out.bytes HY0.out).mono ?_; rintro en w5 ⟨ub, v5, rfl, h1, h2, h3⟩; have HT := Aside0.mk h1; have HO5 := Aside0.mk (HO.out.step h2); have HB5 := Aside0.mk h3; clear h1 h2 h3)
                | (go_at_call 65; with_reducible refine (HT.out.fail 20 HF0.out).mono ?_; rintro en w6 ⟨v6, rfl, h1, h2⟩; have HU := Aside0.mk h1; have HO6 := Aside0.mk (HO5.out.step h2); have HB6 := Aside0.mk (HB5.out.step h2); clear h1 h2)
                | (go_at_call 65; with_reducible refine (HU.out.fail 21 HF1.out).mono ?_; rintro en w7 ⟨v7, rfl, h1, h2⟩; have HV := Aside0.mk h1; have HO7 := Aside0.mk (HO6.out.step h2); have HB7 := Aside0.mk (HB6.out.step h2); clear h1 h2)
                | (go_at_call 52; with_reducible refine (HV.out.bytes HY1.out).mono ?_; rintro en w8 ⟨un, v8, rfl, h1, h2, h3⟩; obtain ⟨An, cn, rfl, hln, hCn⟩ := h3.reads; have HW8 := Aside0.mk h1; obtain ⟨Ao, co, rfl, hlo, hCo⟩ := (HO7.out.step h2).reads; obtain ⟨Ab, cb, rfl, hlb, hCb⟩ := (HB7.out.step h2).reads; have HLO := Aside0.mk hlo; have HCO := Aside0.mk hCo; have HLB := Aside0.mk hlb; have HCB := Aside0.mk hCb; clear h1 h2 h3 hln hCn hlo hCo hlb hCb)
                | (go_at_call 17; refine (batonref01_Same.calls ks Ab cb X Ao co X true w8 HCB.out HLB.out HCO.out HLO.out HSM.out).mono ?_; rintro en w9 ⟨rfl, hd⟩; have HW9 := Aside0.mk (below_step HW8.out.below (below_of_drawn hd)); have HCB9 := Aside0.mk (Kd.C_below HCB.out (below_of_drawn hd)); clear hd)
                | ((with_reducible refine gate_dst (N := 93) rfl ?_); refine Kd.R_lit (Kd.int .u8) w.heap.size 5 rfl (N := 93) rfl (xs := ([] : List Int)) (inner := []) (ok := fun _ => True) (okp := fun _ => True) ?hr (Reps.none _ _) (fun _ hk => hk) trivial HW9.out (below_size HW9.out) (by simp) ?_; (case hr => first | (go_simp; done) | (go_simp; rfl)); intro vl wl hRl hbl hgl hnl; have HRL := Aside0.mk hRl; have HBL := Aside0.mk hbl; have HGL := Aside0.mk hgl; have HNL := Aside0.mk hnl; clear hRl hbl hgl hnl)
                | ((with_reducible refine gate_builtin (b := .append) (xs := #[.tmp 93, .tmp 94]) rfl ?_); at_builtin; refine Kd.R_append_rows (Kd.int .u8) (w0 := w) w.heap.size rfl (.tmp 93) (.tmp 94) 28 5 (.int .u8 0) 1 rfl Try.underlying28 info5 rfl (by decide) (by omega) vl [] X Ab X.length cb (fun _ => True) (fun _ => False) rfl rfl HRL.out (Kd.C_below HCB9.out (below_of_none HGL.out)) (fun _ _ h => h) (fun _ h => h.elim) (fun _ _ => trivial) HBL.out (below_size HBL.out) (by have := HXLEN.out; simp; omega) ?_; intro va wa hoa hba hga hata; rw [List.nil_append] at hoa; have HOA := Aside0.mk hoa; have HBA := Aside0.mk hba; clear hoa hba hga hata)
                | ((with_reducible refine gate_builtin (b := .append) (xs := #[.tmp 95, .tmp 96]) rfl ?_); at_builtin; refine Kd.R_append_rows (Kd.int .u8) (w0 := w) w.heap.size rfl (.tmp 95) (.tmp 96) 28 5 (.int .u8 0) 1 rfl Try.underlying28 info5 rfl (by decide) (by omega) va X bh A1 bh.length c1 (fun _ => True) (fun _ => False) rfl rfl HOA.out (Kd.C_below HC1.out HBA.out) (fun _ _ h => h) (fun _ h => h.elim) (fun _ _ => trivial) HBA.out (below_size HBA.out) (by have := HXLEN.out; have := HBH.out; omega) ?_; intro vj wj hoj hbj hgj hatj; rw [← HYN.out] at hoj; obtain ⟨Aj, cj, ej, hlj, hCj⟩ := Kd.R_reads hoj; subst ej; have HCJ := Aside0.mk hCj; have HLJ := Aside0.mk hlj; have HBJ := Aside0.mk hbj; clear hoj hbj hgj hatj hCj hlj)
                | (go_at_call 47; refine (RSt.new' HCJ.out HLJ.out HYL.out HBJ.out).mono ?_; rintro en wn ⟨gr, rfl, hs⟩; have HR := Aside0.mk hs; clear hs))
              clear hpt hpf
              have HYF : Aside0 (Y = l.flatMap itL ++ bh) := ⟨by rw [HYN.out, HG1.out, List.take_length]⟩
              go_loopg [16] (l.length + 1) (fun kq v16 wr => ∃ (z : Int) (i : Nat), v16 = .int .i64 z ∧ Aside0 (z = (i : Int) ∧ i + kq = l.length + 1 ∧ i ≤ l.length) ∧ Aside0 (RSt w gr ((l.drop i).flatMap itL ++ bh) 0 wr))
              case atStart => exact ⟨0, 0, rfl, ⟨rfl, by omega, by omega⟩, ⟨by rw [List.drop_zero, ← HYF.out]; exact HR.out⟩⟩
              case round =>
                obtain ⟨z2, i, rfl, HK2, HR2⟩ := hrel
                obtain ⟨hz, hk, hil⟩ := HK2.out
                cases gk with
                | zero => omega
                | succ k2 =>
                  have hitb : ∀ x ∈ l, Bytes (itL x) := fun x hx => by
                    obtain ⟨j, hj, rfl⟩ := List.mem_iff_getElem.1 hx
                    exact itL_bytes _ (HWF.out _ hx) (HK3.out j hj)
                  have hitl : ∀ x ∈ l, (itL x).length ≤ 400 := fun x hx => by
                    obtain ⟨j, hj, rfl⟩ := List.mem_iff_getElem.1 hx
                    exact itL_len _ (HK3.out j hj) (HWF.out _ hx).2.2.2.1
                  by_cases hi : i < l.length
                  · have hib : decide (z2 < (l.length : Int)) = true := decide_eq_true (by omega)
                    obtain ⟨ad, e1, B, c, hc2, hC2, hl2, hcell⟩ := at_It HC.out i hi
                    cases e1
                    have hwr : wrap64 (z2 + 1) = ((i + 1 : Nat) : Int) := by have := HKL.out; rw [w64 (by omega) (by omega)]; omega
                    have HWR := Aside0.mk hwr
                    have HI := Aside0.mk hi
                    have HX := Aside0.mk (item_at hz hcell)
                    have HXC := Aside0.mk hC2
                    have HXL := Aside0.mk hc2
                    have HXK := Aside0.mk hl2
                    have HXB := Aside0.mk (HK3.out i hi)
                    have HEI := Aside0.mk (HG2.out i hi hi)
                    have hfl : (l.drop i).flatMap itL ++ bh = itL l[i] ++ ((l.drop (i + 1)).flatMap itL ++ bh) := by rw [drop_flat itL l i hi, List.append_assoc]
                    have hb1 : Bytes ((l.drop i).flatMap itL ++ bh) := bytes_app (flat_bytes (fun x hx => hitb x (List.mem_of_mem_drop hx))) HBY.out
                    have hb2 : ((l.drop i).flatMap itL ++ bh).length ≤ 1000000 := by
                      have h1 := flat_len (l := l.drop i) (fun x hx => hitl x (List.mem_of_mem_drop hx))
                      have := HKL.out
                      have := HBH.out
                      rw [List.length_drop] at h1
                      rw [List.length_append]
                      omega
                    have hr := HR2.out
                    rw [hfl] at hb1 hb2 hr
                    have HBB := Aside0.mk hb1
                    have HBC := Aside0.mk hb2
                    have HRR := Aside0.mk hr
                    have HCUR := Aside0.mk hr.below
                    have p1 := eq_true (show (0 : Int) ≤ z2 by omega)
                    have q1 := eq_true (show z2 < (l.length : Int) by omega)
                    clear hcell hC2 hc2 hl2 hwr hz hk hil hfl hb1 hb2 hr HR2 hitb hitl
                    generalize htl : (l.drop (i + 1)).flatMap itL ++ bh = tail at HBB HBC HRR
                    have HTL := Aside0.mk htl
                    clear htl
                    generalize l[i] = x at HX HXC HXL HXK HXB HEI HBB HBC HRR
                    clear hi
                    go_wp2_with (first
                      | ((with_reducible refine gate_dst (N := 111) rfl ?_); refine L_loadlist rfl 100 (.tmp 110) rfl (ad.add (z2.toNat * 35)) rfl (itC x B c) _ (HX.out _ HCUR.out) Try.underlying100 rfl (by rw [it_size x B c HXK.out]; kernel_rfl) ?_)
                      | (go_at_call 66; refine (read_calls x B c HRR.out HBB.out HBC.out HEI.out HXC.out HXL.out HXK.out (by have := HXB.out; omega)).mono ?_; rintro en wq ⟨rfl, hs⟩; have HE := Aside0.mk hs; clear hs)
                      | (go_at_call 59; refine (HE.out.err (x := 0) (rest' := tail) (e' := 0) rfl).mono ?_; rintro en wq2 ⟨rfl, hs⟩; have HE2 := Aside0.mk hs; clear hs))
                    go_roundg k2
                    case measure => have := HK2.out.2.1; omega
                    case rel => exact ⟨wrap64 (z2 + 1), i + 1, rfl, ⟨HWR.out, by have := HK2.out.2.1; omega, by have := HI.out; omega⟩, ⟨by rw [HTL.out]; exact HE2.out⟩⟩
                  · have hib : decide (z2 < (l.length : Int)) = false := decide_eq_false (by omega)
                    have hie : i = l.length := by omega
                    have hr := HR2.out
                    rw [hie, List.drop_length] at hr
                    have hr2 : RSt w gr bh 0 wr := hr
                    have HE := Aside0.mk hr2
                    have H61 := Aside0.mk (show codec_Reader_Left.f bh 0 = some ((bh.length : Int), bh, 0) from rfl)
                    clear hz hk hil hitb hitl hi hie hr hr2 HR2 HK2
                    by_cases hb0 : bh.length = 0
                    · have H49 := Aside0.mk (show codec_Reader_Done.f bh 0 = some (0, bh, 0) by unfold codec_Reader_Done.f; rw [if_pos rfl, if_neg (by omega)])
                      have hq : ((bh.length : Int) == 0) = true := beq_iff_eq.mpr (by omega)
                      clear hb0
                      go_wp2_with (first
                        | (go_at_call 61; refine (HE.out.left H61.out).mono ?_; rintro en wq ⟨rfl, hs⟩; replace HE := Aside0.mk hs; clear hs)
                        | (go_at_call 49; refine (HE.out.done H49.out).mono ?_; rintro en wq ⟨rfl, hs⟩; replace HE := Aside0.mk hs; clear hs))
                      go_ret
                      exact ⟨rfl, HE.out.below⟩
                    · have H49 := Aside0.mk (show codec_Reader_Done.f bh 0 = some (5, bh, 0) by unfold codec_Reader_Done.f; rw [if_pos rfl, if_pos (by omega)])
                      have hq : ((bh.length : Int) == 0) = false := beq_eq_false_iff_ne.mpr (by omega)
                      clear hb0
                      go_wp2_with (first
                        | (go_at_call 61; refine (HE.out.left H61.out).mono ?_; rintro en wq ⟨rfl, hs⟩; replace HE := Aside0.mk hs; clear hs)
                        | (go_at_call 49; refine (HE.out.done H49.out).mono ?_; rintro en wq ⟨rfl, hs⟩; replace HE := Aside0.mk hs; clear hs))
                      go_ret
                      exact ⟨rfl, HE.out.below⟩
            · have HY := Aside0.mk (bytes_err X 1 (by decide))
              go_wp2_with (first
                | (go_at_call 52; refine (HS.out.bytes HY.out).mono ?_; rintro en w5 ⟨ub, v5, rfl, h1, h2, h3⟩; obtain ⟨Ab, cb, rfl, hlb, hCb⟩ := h3.reads; have HW5 := Aside0.mk h1.below; clear h1 h2 h3 hlb hCb))
              go_ret
              exact ⟨rfl, HW5.out⟩
  · have HFW := Aside0.mk (fun (W : World) (h : Kd.C kIt W A0 l.length l) => few_no (w := W) A0 c0 l h hfew)
    clear hfew
    go_enter Try.func13, Try.ntmps13
    go_wp2_with (first
      | (go_at_call 46; refine (batonlaw06_awake.calls ka true _ HA.out).mono ?_; rintro e w1 ⟨rfl, hb1⟩; have HB1 := Aside0.mk hb1; clear hb1)
      | (go_at_call 62; refine (HFW.out _ (Kd.C_below HC.out HB1.out)).mono ?_; rintro e w2 ⟨rfl, hb2⟩; have HB2 := Aside0.mk (below_step HB1.out hb2); clear hb2))
    go_ret
    exact ⟨rfl, HB2.out⟩

end Go.Proofs.Ythcpfkkddfgamaa.Cod
