/- RunesTexts: the law's own function. No condition. -/
import Derived.Test.YtkckojgjkmcokaaRunC
import Derived.Laws.RangeAny
import Derived.Lib.DecodeN
namespace Go.Proofs.Ytkckojgjkmcokaa.Sha
open Go.AnyFacts Go.RowKit Go.Proofs.YtkckojgjkmcokaaW.Hand Go.Proofs.YtkckojgjkmcokaaW.PrintWords Go.Proofs.YtkckojgjkmcokaaW.PrintLast Go.Proofs.YtkckojgjkmcokaaW.PrintMore Go.Proofs.Ytkckojgjkmcokaa.PF08T Go.Proofs.Ytkckojgjkmcokaa.Base Go.Proofs.Ytkckojgjkmcokaa.LF08T
set_option linter.unusedVariables false
set_option linter.unusedSimpArgs false

/-! ### what the law asks -/
theorem runes_sign (s : ByteArray) : ∀ x ∈ runesL s, sign x := tells_sign _ _ (fun x hx => by simp at hx) (bytesS_bytes s)
theorem runes_len (s : ByteArray) : (runesL s).length ≤ 2 * s.size + 1 := by have := tells_length (bytesS s) []; rw [bytesS_length] at this; exact this
theorem wrap64_sign {x : Int} (h : sign x) : wrap64 x = x := by unfold sign at h; exact w64 (by omega) (by omega)
theorem lsame_l0 (l : List Int) (hl : l.length ≤ 1000000) (hs : ∀ x ∈ l, sign x) : ∀ (d i : Nat), l.length - i = d → i ≤ l.length → Ev (fun k => batonlaw08_same.l0 k l l (i : Int)) true := by
  intro d
  induction d with
  | zero =>
    intro i hd hi
    refine ev_succ ?_
    simp only [batonlaw08_same.l0, if_neg (show ¬ ((i : Int) < (l.length : Int)) by omega)]
    exact ev_some _
  | succ d ih =>
    intro i hd hi
    have hlt : i < l.length := by omega
    refine ev_succ ?_
    have hw := wrap64_sign (hs l[i] (List.getElem_mem hlt))
    have hw1 : wrap64 ((i : Int) + 1) = ((i + 1 : Nat) : Int) := by rw [w64 (by omega) (by omega)]; omega
    simp only [batonlaw08_same.l0, if_pos (show (i : Int) < (l.length : Int) by omega), if_pos (show (0 : Int) ≤ (i : Int) by omega), rd_lt hlt, hw, hw1, if_true]
    exact ih (i + 1) (by omega) (by omega)
theorem lsame_ev (l : List Int) (hl : l.length ≤ 1000000) (hs : ∀ x ∈ l, sign x) : Ev (fun k => batonlaw08_same.f k l l) true := by
  unfold batonlaw08_same.f
  simp only [if_true]
  exact lsame_l0 l hl hs l.length 0 (by omega) (by omega)
theorem text_bytes (l : List Int) : Bytes (l.flatMap enc') := by
  intro x hx
  obtain ⟨c, _, hc⟩ := List.mem_flatMap.1 hx
  exact enc'_bytes c x hc
theorem text_len (l : List Int) : (l.flatMap enc').length ≤ 4 * l.length := by
  induction l with
  | nil => simp
  | cons c l ih => rw [List.flatMap_cons, List.length_append, List.length_cons]; have := enc'_len c; omega
theorem str_size (l : List Int) : (strOfNums l).size = l.length := by
  unfold strOfNums
  show (List.map _ l).toArray.size = _
  simp
theorem text_valid {l : List Int} (h : ∀ x ∈ l, sign x) : valS (strOfNums (l.flatMap enc')) = true := by
  unfold valS
  rw [bytesS_str _ (text_bytes l), flatMap_enc' h]
  exact (vb_enc l _ h (Nat.le_refl _)).1
theorem text_runes {l : List Int} (h : ∀ x ∈ l, sign x) : runesL (strOfNums (l.flatMap enc')) = l := by
  unfold runesL
  rw [bytesS_str _ (text_bytes l), flatMap_enc' h]
  obtain ⟨h1, h2⟩ := vb_enc l _ h (Nat.le_refl _)
  rw [(vb_all _ _ (Nat.le_refl _) (by rw [← flatMap_enc' h]; exact text_bytes l) h1).1, h2]
theorem text_iff (s : ByteArray) : strOfNums ((runesL s).flatMap enc') = s ↔ valS s = true := by
  constructor
  · intro h
    have := text_valid (runes_sign s)
    rw [h] at this
    exact this
  · intro h
    apply bytesS_inj
    rw [bytesS_str _ (text_bytes _), flatMap_enc' (runes_sign s)]
    obtain ⟨h1, h2, _⟩ := vb_all _ (bytesS s) (Nat.le_refl _) (bytesS_bytes s) h
    unfold runesL
    rw [h1, h2]
theorem str_beq (T s : ByteArray) : (T.toList == s.toList) = decide (T = s) := by
  rw [Go.Lib.toList_data, Go.Lib.toList_data, Bool.eq_iff_iff, beq_iff_eq, decide_eq_true_iff]
  constructor
  · intro h
    have := Array.toList_inj.1 h
    cases T; cases s
    simp_all
  · rintro rfl; rfl
theorem beq_of_iff {T s : ByteArray} {V : Bool} (h : T = s ↔ V = true) : ((decide (T = s)) == V) = true := by
  cases V <;> simp_all
theorem below_of_drawn {w w' : World} (h : Drawn0 w w') : Below w.heap.size w w' := by
  obtain ⟨n, rfl⟩ := h
  exact pw_below_drewN (Below.refl _ _) _
set_option maxHeartbeats 8000000 in
set_option maxRecDepth 100000 in
theorem RunesTexts_calls (s : ByteArray) (w : World) : Calls Try.prog 5 #[.string s] w fun e w' => e = .returned (.bool true) ∧ Below w.heap.size w w' := by
  obtain ⟨ka, hka⟩ := awake08.rounds
  have HA := Aside0.mk hka
  clear hka
  by_cases hs : s.size ≤ 100
  · have hbl : (bytesS s).length ≤ 1000000 := by rw [bytesS_length]; omega
    have HS := Aside0.mk hs
    have hs2 : s.size ≤ 1000000 := by omega
    have HS2 := Aside0.mk hs2
    have hrl := runes_len s
    have hrl2 : (runesL s).length ≤ 1000000 := by omega
    obtain ⟨kr, hkr⟩ := (refAll_ev (bytesS s) hbl (bytesS_bytes s)).rounds
    obtain ⟨kv, hkv⟩ := (refValid_ev (bytesS s) hbl (bytesS_bytes s)).rounds
    obtain ⟨kl, hkl⟩ := (All_ev (bytesS s) hbl (bytesS_bytes s)).rounds
    obtain ⟨kt, hkt⟩ := (Text_ev (runesL s) hrl2).rounds
    obtain ⟨ks, hks⟩ := (lsame_ev (runesL s) hrl2 (runes_sign s)).rounds
    have hiff := text_iff s
    have hval := text_valid (runes_sign s)
    have htl : (strOfNums ((runesL s).flatMap enc')).size ≤ 1000000 := by rw [str_size]; have := text_len (runesL s); omega
    have HVT := fun w => valid_all (strOfNums ((runesL s).flatMap enc')) w htl
    rw [hval] at HVT
    clear hval
    change batonref08_All.f kr (bytesS s) = some (runesL s) at hkr
    change batonref08_Valid.f kv (bytesS s) = some (valS s) at hkv
    change runes_All.f kl (bytesS s) = some (runesL s) at hkl
    have HR := fun w => Runes_all s w hs2
    have HCN := fun w => Count_all s w hs2
    have HVS := fun w => valid_all s w hs2
    obtain ⟨T, hT⟩ : ∃ T, T = strOfNums ((runesL s).flatMap enc') := ⟨_, rfl⟩
    obtain ⟨L, hL⟩ : ∃ L, L = runesL s := ⟨_, rfl⟩
    obtain ⟨V, hV⟩ : ∃ V, V = valS s := ⟨_, rfl⟩
    rw [← hT, ← hV] at hiff
    rw [← hT] at hkt HVT
    rw [← hL] at hkr hkl hkt hks HR HCN
    rw [← hV] at hkv HVS
    have HKR := Aside0.mk hkr
    have HKV := Aside0.mk hkv
    have HKL := Aside0.mk hkl
    have HKT := Aside0.mk hkt
    have HKS := Aside0.mk hks
    have HRA := Aside0.mk HR
    have HCA := Aside0.mk HCN
    have HVA := Aside0.mk HVS
    have HVB := Aside0.mk HVT
    have HI := Aside0.mk hiff
    clear hkr hkv hkl hkt hks HR HCN HVS HVT hiff hT hL hV htl hrl hrl2 hbl
    go_enter Try.func5, Try.ntmps5
    go_wp2_with (first
     | (go_at_call 13; refine (batonlaw08_awake.calls ka true _ HA.out).mono ?_; rintro e w1 ⟨rfl, hb1⟩; have HB1 := Aside0.mk hb1; clear hb1)
     | ((with_reducible refine gate_dst (N := 13) rfl ?_); refine L_conv rfl 9 22 (.tmp 12) rfl s rfl Try.underlying9 Try.underlying22 Try.underlying5 (Nat.le_trans HS2.out (by decide)) w1.heap.size (Nat.le_refl _) ?_; intro v2 w2 hq2 hb2; obtain ⟨A2, c2, rfl, hle2⟩ := hq2.slice; have HQ2 := Aside0.mk hq2; have HB2 := Aside0.mk hb2; clear hq2 hb2)
     | (go_at_call 24; refine (batonref08_All.calls kr A2 c2 (bytesS s) L _ HQ2.out.C hle2 HKR.out).mono ?_; rintro e w3 ⟨v3, rfl, hr3, hb3⟩; obtain ⟨A3, c3, rfl, hle3, hC3⟩ := Kd.R_reads hr3; have HC3 := Aside0.mk hC3; have HB3 := Aside0.mk hb3; clear hr3 hb3 hC3)
     | ((with_reducible refine gate_dst (N := 16) rfl ?_); refine L_conv rfl 9 22 (.tmp 15) rfl s rfl Try.underlying9 Try.underlying22 Try.underlying5 (Nat.le_trans HS2.out (by decide)) w3.heap.size (Nat.le_refl _) ?_; intro v4 w4 hq4 hb4; obtain ⟨A4, c4, rfl, hle4⟩ := hq4.slice; have HQ4 := Aside0.mk hq4; have HB4 := Aside0.mk hb4; clear hq4 hb4)
     | (go_at_call 25; refine (batonref08_Valid.calls kv A4 c4 (bytesS s) V _ HQ4.out.C hle4 HKV.out).mono ?_; rintro e w5 ⟨rfl, hb5⟩; have HB5 := Aside0.mk hb5; clear hb5)
     | (go_at_call 26; refine (HRA.out _).mono ?_; rintro e w6 ⟨A6, c6, rfl, hle6, hC6, hb6⟩; have HC6 := Aside0.mk hC6; have HB6 := Aside0.mk hb6; clear hC6 hb6)
     | (go_at_call 15; refine (batonlaw08_same.calls ks A9 c9 L A3 c3 L true _ HC9.out hle9 (Kd.C_below HC3.out (below_step (below_step (below_step (below_step (below_step HB4.out HB5.out) HB6.out) HB7.out) HB8.out) HB9.out)) hle3 HKS.out).mono ?_; rintro e w10 ⟨rfl, hd10⟩; have HB10 := Aside0.mk (below_of_drawn hd10); clear hd10)
     | ((with_reducible refine gate_dst (N := 26) rfl ?_); (try (refine gate_guard (by rfl) ?_; dsimp only)); refine L_conv rfl 9 22 (.tmp 25) rfl s rfl Try.underlying9 Try.underlying22 Try.underlying5 (Nat.le_trans HS2.out (by decide)) w7.heap.size (Nat.le_refl _) ?_; intro v8 w8 hq8 hb8; obtain ⟨A8, c8, rfl, hle8⟩ := hq8.slice; have HQ8 := Aside0.mk hq8; have HB8 := Aside0.mk hb8; clear hq8 hb8)
     | (go_at_call 20; refine (runes_All.calls kl A8 c8 (bytesS s) L _ HQ8.out.C hle8 HKL.out).mono ?_; rintro e w9 ⟨v9, rfl, hr9, hb9⟩; obtain ⟨A9, c9, rfl, hle9, hC9⟩ := Kd.R_reads hr9; have HC9 := Aside0.mk hC9; have HB9 := Aside0.mk hb9; clear hr9 hb9 hC9)
     | (go_at_call 15; (fail_if_success have := HB9); refine (batonlaw08_same.calls ks A6 c6 L A3 c3 L true _ HC6.out hle6 (Kd.C_below HC3.out (below_step (below_step HB4.out HB5.out) HB6.out)) hle3 HKS.out).mono ?_; rintro e w7 ⟨rfl, hd7⟩; have HB7 := Aside0.mk (below_of_drawn hd7); clear hd7)
     | (go_at_call 28; have HB13 := HB13; refine (HVB.out _).mono ?_; rintro e w14 ⟨rfl, hb14⟩; have HB14 := Aside0.mk hb14; clear hb14)
     | (go_at_call 29; refine (runes_Text.calls kt A6 c6 L T _ (Kd.C_below HC6.out (below_step (below_step (below_step (below_step (below_step HB7.out HB8.out) HB9.out) HB10.out) HB11.out) HB12.out)) hle6 HKT.out).mono ?_; rintro e w13 ⟨rfl, hb13⟩; have HB13 := Aside0.mk hb13; clear hb13)
     | (go_at_call 28; (fail_if_success have := HB13); refine (HVA.out _).mono ?_; rintro e w12 ⟨rfl, hb12⟩; have HB12 := Aside0.mk hb12; clear hb12)
     | (go_at_call 27; refine (HCA.out _).mono ?_; rintro e w11 ⟨rfl, hb11⟩; have HB11 := Aside0.mk hb11; clear hb11))
    go_ret
    refine ⟨?_, below_step (below_step (below_step (below_step (below_step (below_step (below_step (below_step (below_step (below_step (below_step (below_step (below_step HB1.out HB2.out) HB3.out) HB4.out) HB5.out) HB6.out) HB7.out) HB8.out) HB9.out) HB10.out) HB11.out) HB12.out) HB13.out) HB14.out⟩
    rw [str_beq, beq_of_iff HI.out]
    rfl
  · have HS := Aside0.mk hs
    have hgt : (100 : Int) < (s.size : Int) := by omega
    have HG := Aside0.mk hgt
    go_enter Try.func5, Try.ntmps5
    go_wp2_with (first
     | (go_at_call 13; refine (batonlaw08_awake.calls ka true _ HA.out).mono ?_; rintro e w1 ⟨rfl, hb1⟩; have HB1 := Aside0.mk hb1; clear hb1))
    go_ret
    exact ⟨rfl, HB1.out⟩
end Go.Proofs.Ytkckojgjkmcokaa.Sha
