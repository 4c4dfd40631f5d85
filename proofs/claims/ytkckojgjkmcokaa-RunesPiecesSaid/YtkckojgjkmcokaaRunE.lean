/- RunesPieces: the law's own function. No condition. -/
import Derived.Test.YtkckojgjkmcokaaRunD
import Derived.Laws.RangeAny
import Derived.Lib.DecodeN
namespace Go.Proofs.Ytkckojgjkmcokaa.Sha
open Go.AnyFacts Go.RowKit Go.Proofs.YtkckojgjkmcokaaW.Hand Go.Proofs.YtkckojgjkmcokaaW.PrintWords Go.Proofs.YtkckojgjkmcokaaW.PrintLast Go.Proofs.YtkckojgjkmcokaaW.PrintMore Go.Proofs.Ytkckojgjkmcokaa.PF08T Go.Proofs.Ytkckojgjkmcokaa.Base Go.Proofs.Ytkckojgjkmcokaa.LF08T
set_option linter.unusedVariables false
set_option linter.unusedSimpArgs false

/-! ### a text made of pieces -/
def fixS (c : Int) : Int := if sign c then c else 65533
theorem fixS_sign (c : Int) : sign (fixS c) := by
  unfold fixS
  split
  · assumption
  · exact sign65533
theorem enc'_fix (c : Int) : enc' c = enc (fixS c) := by
  unfold enc' fixS
  split <;> rfl
theorem flat_fix (l : List Int) : l.flatMap enc' = (l.map fixS).flatMap enc := by
  induction l with
  | nil => rfl
  | cons c l ih => rw [List.flatMap_cons, List.map_cons, List.flatMap_cons, ih, enc'_fix]
theorem fix_sign (l : List Int) : ∀ x ∈ l.map fixS, sign x := by
  intro x hx
  obtain ⟨c, _, rfl⟩ := List.mem_map.1 hx
  exact fixS_sign c
theorem text_fix (l : List Int) : strOfNums (l.flatMap enc') = strOfNums ((l.map fixS).flatMap enc') := by
  rw [flat_fix, flatMap_enc' (fix_sign l)]
theorem text_runes2 (l : List Int) : runesL (strOfNums (l.flatMap enc')) = l.map fixS := by
  rw [text_fix, text_runes (fix_sign l)]
theorem text_valid2 (l : List Int) : valS (strOfNums (l.flatMap enc')) = true := by
  rw [text_fix, text_valid (fix_sign l)]
theorem bytesS_append (s t : ByteArray) : bytesS (s ++ t) = bytesS s ++ bytesS t := by
  unfold bytesS
  rw [← List.map_append]
  congr 1
theorem count_append (s t : ByteArray) (h1 : valS s = true) (h2 : valS t = true) : (runesL (s ++ t)).length = (runesL s).length + (runesL t).length := by
  obtain ⟨a1, a2⟩ := vb_append (bytesS_bytes s) (bytesS_bytes t) h1 h2
  have e : ∀ u : ByteArray, valS u = true → runesL u = sg (bytesS u).length (bytesS u) := fun u h => (vb_all _ (bytesS u) (Nat.le_refl _) (bytesS_bytes u) h).1
  have h3 : valS (s ++ t) = true := by unfold valS; rw [bytesS_append]; exact a1
  rw [e _ h3, bytesS_append, a2, List.length_append, e s h1, e t h2]
theorem rd_map (l : List Int) (i : Nat) (h : i < l.length) : rd (l.map fixS) (i : Int) = fixS (rd l (i : Int)) := by
  rw [rd_lt h, rd_lt (show i < (l.map fixS).length by rw [List.length_map]; exact h), List.getElem_map]
theorem take_rd (l : List Int) (i : Nat) (h : i < l.length) : l.take i ++ [rd l (i : Int)] = l.take (i + 1) := by
  rw [rd_lt h, List.take_append_getElem h]
set_option maxHeartbeats 8000000 in
set_option maxRecDepth 100000 in
theorem RunesPieces_calls (A0 : Option Addr) (c0 : Nat) (l : List Int) (s : ByteArray) (w : World) (hC : Kd.C (Kd.int .i32) w A0 l.length l) (hc : l.length ≤ c0) (hw0 : ∀ x ∈ l, (Lit.int .i32 x).wf = true) : Calls Try.prog 6 #[.slice A0 l.length c0, .string s] w fun e w' => e = .returned (.bool true) ∧ Below w.heap.size w w' := by
  obtain ⟨ka, hka⟩ := awake08.rounds
  have HA := Aside0.mk hka
  clear hka
  have hw : ∀ x ∈ l, -2147483648 ≤ x ∧ x ≤ 2147483647 := fun x hx => by have := bounds_i32 (hw0 x hx); omega
  clear hw0
  have HC0 := Aside0.mk hC
  have HCC := Aside0.mk hc
  clear hC hc
  by_cases h1 : l.length ≤ 40
  · by_cases h2 : s.size ≤ 60
    · have HL := Aside0.mk h1
      have HS := Aside0.mk h2
      obtain ⟨T, hT⟩ : ∃ T, T = strOfNums (l.flatMap enc') := ⟨_, rfl⟩
      obtain ⟨X, hX⟩ : ∃ X, X = l.map fixS := ⟨_, rfl⟩
      have hXl : X.length = l.length := by rw [hX, List.length_map]
      have hts : T.size ≤ 160 := by rw [hT, str_size]; have := text_len l; omega
      obtain ⟨kt, hkt⟩ := (Text_ev l (by omega)).rounds
      rw [← hT] at hkt
      have hru : runesL T = X := by rw [hT, hX]; exact text_runes2 l
      have HRT := fun w => Runes_all T w (by omega)
      rw [hru, hXl] at HRT
      have HVS := fun w => valid_all s w (by omega)
      have HCS := fun w => Count_all s w (by omega)
      have hsz : (s ++ T).size = s.size + T.size := ByteArray.size_append
      have HCB := fun w => Count_all (s ++ T) w (by omega)
      have happ : valS s = true → (runesL (s ++ T)).length = (runesL s).length + l.length := fun h => by
        rw [count_append s T h (by rw [hT]; exact text_valid2 l), hru, hXl]
      have hrl := runes_len s
      have hrd : ∀ i : Nat, i < l.length → rd X (i : Int) = fixS (rd l (i : Int)) := fun i hi => by rw [hX]; exact rd_map l i hi
      have hw64 : ∀ i : Nat, i < l.length → wrap64 (rd l (i : Int)) = rd l (i : Int) := fun i hi => by
        have := hw (rd l (i : Int)) (by rw [rd_lt hi]; exact List.getElem_mem hi)
        exact w64 (by omega) (by omega)
      have HTS := Aside0.mk hts
      have HKT := Aside0.mk hkt
      have HRX := Aside0.mk HRT
      have HVA := Aside0.mk HVS
      have HCA := Aside0.mk HCS
      have HCX := Aside0.mk HCB
      have HAP := Aside0.mk happ
      have HRL := Aside0.mk hrl
      have HRD := Aside0.mk hrd
      have HW := Aside0.mk hw64
      have HXL := Aside0.mk hXl
      clear hkt HRT HVS HCS HCB happ hrl hrd hw64 hXl hT hX hts hru hsz hw
      go_enter Try.func6, Try.ntmps6
      go_wp2_with (first
       | (go_at_call 13; refine (batonlaw08_awake.calls ka true _ HA.out).mono ?_; rintro e w1 ⟨rfl, hb1⟩; have HB1 := Aside0.mk hb1; clear hb1))
      go_loopg [5, 6] (l.length + 1) (fun kq v5 v6 wr => ∃ (z : Int) (i : Nat), v6 = .int .i64 z ∧ Aside0 (z = (i : Int) ∧ i + kq = l.length + 1 ∧ i ≤ l.length) ∧ Aside0 (Kd.R (Kd.int .i32) 21 wr w.heap.size (fun _ => True) v5 (l.take i)) ∧ Aside0 (Below w.heap.size w wr))
      case atStart => exact ⟨0, 0, rfl, ⟨by omega⟩, ⟨Kd.R_nil _ _ _ _ _⟩, ⟨HB1.out⟩⟩
      case round =>
        obtain ⟨z, i, rfl, HK, HO, HB⟩ := hrel
        obtain ⟨hz, hk, hil⟩ := HK.out
        cases gk with
        | zero => omega
        | succ k1 =>
          have HZ := Aside0.mk hz
          by_cases hi : i < l.length
          · have hib : decide (z < (l.length : Int)) = true := decide_eq_true (by omega)
            obtain ⟨ad, e1, hx⟩ := Kd.at_int HC0.out z (by omega) (by omega)
            cases e1
            replace hx := (HB.out.cell (World.block_lt_of_cell? w _ hx)).trans hx
            have p1 := eq_true (show (0 : Int) ≤ z by omega)
            have q1 := eq_true (show z < (l.length : Int) by omega)
            have htk := Aside0.mk (show l.take i ++ [rd l z] = l.take (i + 1) by rw [hz]; exact take_rd l i hi)
            have hlt := Aside0.mk (show (l.take i).length ≤ 40 by rw [List.length_take]; omega)
            have HI := Aside0.mk hi
            clear hz hk hil hi
            go_wp2_with (first
              | ((with_reducible refine gate_dst (N := 32) rfl ?_); refine L_bslice rfl 30 21 1 _ rfl Try.underlying30 (arr .i32 [rd l z]) (by kernel_rfl) ?_; intro g4 w4 hb4 hg4 hs4 hl4; have HB4 := Aside0.mk hb4; have HL4 := Aside0.mk hl4; clear hb4 hg4 hs4 hl4)
              | ((with_reducible refine gate_builtin (b := .append) (xs := #[.tmp 27, .tmp 32]) rfl ?_); at_builtin; refine Kd.R_append_rows (Kd.int .i32) (w0 := w) w.heap.size rfl (.tmp 27) (.tmp 32) 30 21 (.int .i32 0) 4 rfl Try.underlying30 info21 rfl (by decide) (by omega) u5 (l.take i) [rd l z] (some ⟨g4, 0, none⟩) 1 1 (fun _ => True) (fun _ => False) rfl rfl (Kd.R_below HO.out HL4.out) (C_arr (xs := [rd l z]) HB4.out (by simp)) (fun _ _ h => h) (fun _ h => h.elim) (fun _ _ => trivial) (below_step HB.out HL4.out) (Nat.le_trans HB.out.size HL4.out.size) ?aL ?_; (case aL => have := hlt.out; omega); intro v5 w5 ho5 hb5 hg5 hat5; rw [htk.out] at ho5; have HO5 := Aside0.mk ho5; have HB5 := Aside0.mk hb5; clear ho5 hb5 hg5 hat5))
            go_roundg k1
            case measure => have := HK.out.2.1; omega
            case rel =>
              have hw1 : wrap64 (z + 1) = ((i + 1 : Nat) : Int) := by have := HI.out; have := HL.out; have := HZ.out; rw [w64 (by omega) (by omega)]; omega
              exact ⟨wrap64 (z + 1), i + 1, rfl, ⟨hw1, by have := HK.out.2.1; omega, by have := HI.out; omega⟩, ⟨HO5.out⟩, ⟨HB5.out⟩⟩
          · have hib : decide (z < (l.length : Int)) = false := decide_eq_false (by omega)
            have hie := HO.out
            rw [List.take_of_length_le (by omega)] at hie
            obtain ⟨A5, c5, e5, hle5, hC5⟩ := Kd.R_reads hie
            have HC5 := Aside0.mk hC5
            have HBX := Aside0.mk HB.out
            clear hC5 hie HO hz hk hil hi
            subst e5
            go_wp2_with (first
              | (go_at_call 29; refine (runes_Text.calls kt A5 c5 l T _ HC5.out hle5 HKT.out).mono ?_; rintro e w6 ⟨rfl, hb6⟩; have HB6 := Aside0.mk hb6; clear hb6)
              | (go_at_call 26; refine (HRX.out _).mono ?_; rintro e w7 ⟨A7, c7, rfl, hle7, hC7, hb7⟩; have HC7 := Aside0.mk hC7; have HB7 := Aside0.mk hb7; clear hC7 hb7))
            have HW7 := Aside0.mk (below_step (below_step HBX.out HB6.out) HB7.out)
            have HC8 : Aside0 (Kd.C (Kd.int .i32) w7 A7 X.length X) := ⟨by rw [HXL.out]; exact HC7.out⟩
            clear HB HK HZ HC7
            go_loopg [9] (l.length + 1) (fun kq v9 wr => ∃ (z : Int) (i : Nat), v9 = .int .i64 z ∧ Aside0 (z = (i : Int) ∧ i + kq = l.length + 1 ∧ i ≤ l.length) ∧ Aside0 (Below w.heap.size w wr) ∧ Aside0 (Below w7.heap.size w7 wr))
            case atStart => exact ⟨0, 0, rfl, ⟨by omega⟩, ⟨HW7.out⟩, ⟨Below.refl _ _⟩⟩
            case round =>
              obtain ⟨z, i, rfl, HK, HB, HB8⟩ := hrel
              obtain ⟨hz, hk, hil⟩ := HK.out
              cases gk with
              | zero => omega
              | succ k1 =>
                have HZ := Aside0.mk hz
                by_cases hi : i < l.length
                · have hib : decide (z < (l.length : Int)) = true := decide_eq_true (by omega)
                  obtain ⟨ad, e1, hx⟩ := Kd.at_int HC0.out z (by omega) (by omega)
                  cases e1
                  replace hx := (HB.out.cell (World.block_lt_of_cell? w _ hx)).trans hx
                  obtain ⟨ad2, e2, hx2⟩ := Kd.at_int HC8.out z (by omega) (by rw [HXL.out]; omega)
                  cases e2
                  replace hx2 := (HB8.out.cell (World.block_lt_of_cell? w7 _ hx2)).trans hx2
                  have p1 := eq_true (show (0 : Int) ≤ z by omega)
                  have q1 := eq_true (show z < (l.length : Int) by omega)
                  have hrz : rd X z = fixS (rd l z) := by rw [hz]; exact HRD.out i hi
                  have hwz : wrap64 (rd l z) = rd l z := by rw [hz]; exact HW.out i hi
                  have HI := Aside0.mk hi
                  clear hz hk hil hi
                  rw [hrz] at hx2
                  by_cases hsg : sign (rd l z)
                  · have HSG := Aside0.mk (show batonref08_Sign.f (wrap64 (rd l z)) = some true by rw [hwz, Sign_f, decide_eq_true hsg])
                    rw [show fixS (rd l z) = rd l z from if_pos hsg] at hx2
                    clear hrz hwz hsg
                    go_wp2_with (first
                      | (go_at_call 21; refine (batonref08_Sign.calls (wrap64 (rd l z)) true _ HSG.out).mono ?_; rintro e w9 ⟨rfl, ⟨nd, rfl⟩⟩))
                    go_roundg k1
                    case measure => have := HK.out.2.1; omega
                    case rel =>
                      have hw1 : wrap64 (z + 1) = ((i + 1 : Nat) : Int) := by have := HI.out; have := HL.out; have := HZ.out; rw [w64 (by omega) (by omega)]; omega
                      exact ⟨wrap64 (z + 1), i + 1, rfl, ⟨hw1, by have := HK.out.2.1; omega, by have := HI.out; omega⟩, ⟨pw_below_drewN HB.out _⟩, ⟨pw_below_drewN HB8.out _⟩⟩
                  · have HSG := Aside0.mk (show batonref08_Sign.f (wrap64 (rd l z)) = some false by rw [hwz, Sign_f, decide_eq_false hsg])
                    rw [show fixS (rd l z) = 65533 from if_neg hsg] at hx2
                    clear hrz hwz hsg
                    go_wp2_with (first
                      | (go_at_call 21; refine (batonref08_Sign.calls (wrap64 (rd l z)) false _ HSG.out).mono ?_; rintro e w9 ⟨rfl, ⟨nd, rfl⟩⟩))
                    go_roundg k1
                    case measure => have := HK.out.2.1; omega
                    case rel =>
                      have hw1 : wrap64 (z + 1) = ((i + 1 : Nat) : Int) := by have := HI.out; have := HL.out; have := HZ.out; rw [w64 (by omega) (by omega)]; omega
                      exact ⟨wrap64 (z + 1), i + 1, rfl, ⟨hw1, by have := HK.out.2.1; omega, by have := HI.out; omega⟩, ⟨pw_below_drewN HB.out _⟩, ⟨pw_below_drewN HB8.out _⟩⟩
                · have hib : decide (z < (l.length : Int)) = false := decide_eq_false (by omega)
                  clear hz hk hil hi
                  by_cases hV : valS s = true
                  · have hap := HAP.out hV
                    have hrl := HRL.out
                    have hsl := HS.out
                    have hll := HL.out
                    have hsum : wrap64 (((runesL s).length : Int) + (l.length : Int)) = ((runesL (s ++ T)).length : Int) := by rw [hap, w64 (by omega) (by omega)]; omega
                    have HSU := Aside0.mk hsum
                    have HVV := HVA.out
                    rw [hV] at HVV
                    have HVB := Aside0.mk HVV
                    clear hap hrl hsum HVV hV
                    go_wp2_with (first
                      | (go_at_call 28; refine (HVB.out _).mono ?_; rintro e w10 ⟨rfl, hb10⟩; have HB10 := Aside0.mk hb10; clear hb10)
                      | (go_at_call 27; have HB11 := HB11; refine (HCA.out _).mono ?_; rintro e w12 ⟨rfl, hb12⟩; have HB12 := Aside0.mk hb12; clear hb12)
                      | (go_at_call 27; (fail_if_success have := HB11); refine (HCX.out _).mono ?_; rintro e w11 ⟨rfl, hb11⟩; have HB11 := Aside0.mk hb11; clear hb11))
                    · exfalso
                      have := HTS.out
                      have := HS.out
                      omega
                    · go_ret
                      refine ⟨?_, below_step (below_step (below_step HB.out HB10.out) HB11.out) HB12.out⟩
                      rw [HSU.out, beq_self_eq_true]
                      rfl
                  · have HVV := HVA.out
                    rw [Bool.eq_false_iff.2 hV] at HVV
                    have HVB := Aside0.mk HVV
                    clear HVV hV
                    go_wp2_with (first
                      | (go_at_call 28; refine (HVB.out _).mono ?_; rintro e w10 ⟨rfl, hb10⟩; have HB10 := Aside0.mk hb10; clear hb10))
                    go_ret
                    exact ⟨rfl, below_step HB.out HB10.out⟩
    · have hgt : (60 : Int) < (s.size : Int) := by omega
      go_enter Try.func6, Try.ntmps6
      go_wp2_with (first
       | (go_at_call 13; refine (batonlaw08_awake.calls ka true _ HA.out).mono ?_; rintro e w1 ⟨rfl, hb1⟩; have HB1 := Aside0.mk hb1; clear hb1))
      go_ret
      exact ⟨rfl, HB1.out⟩
  · have hgt : (40 : Int) < (l.length : Int) := by omega
    go_enter Try.func6, Try.ntmps6
    go_wp2_with (first
       | (go_at_call 13; refine (batonlaw08_awake.calls ka true _ HA.out).mono ?_; rintro e w1 ⟨rfl, hb1⟩; have HB1 := Aside0.mk hb1; clear hb1))
    go_ret
    exact ⟨rfl, HB1.out⟩
end Go.Proofs.Ytkckojgjkmcokaa.Sha
