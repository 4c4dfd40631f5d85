/- The law RosterFinds: what it comes to. No condition beside those stated. -/
import Derived.Test.YtdbfclfglpbpmaaRfA
namespace Go.Proofs.Ytdbfclfglpbpmaa.Rf
open Go.AnyFacts Go.RowKit Go.Proofs.YtdbfclfglpbpmaaW.Hand Go.Proofs.YtdbfclfglpbpmaaW.PrintWords Go.Proofs.YtdbfclfglpbpmaaW.PrintLast Go.Proofs.YtdbfclfglpbpmaaW.PrintMore Go.Proofs.Ytdbfclfglpbpmaa.PF25F Go.Proofs.Ytdbfclfglpbpmaa.Base Go.Proofs.Ytdbfclfglpbpmaa.LF25F Go.Proofs.Ytdbfclfglpbpmaa.Sha
set_option linter.unusedVariables false
set_option linter.unusedSimpArgs false
attribute [local go_sem high] eqA115
set_option maxHeartbeats 8000000 in
set_option maxRecDepth 100000 in
theorem Finds_long (sec : List Int) (A0 : Option Addr) (c0 : Nat) (l : List S115) (id : Int) (w : World) (hsl : sec.length = 32) (hBs : Bytes sec) (hr0 : Kd.C k115 w A0 l.length l) (hc0 : l.length ≤ c0) (hl : 30 < l.length) :
    Calls Try.prog 14 #[.agg (arr .u8 sec), .slice A0 l.length c0, .int .i64 id] w fun e w' => e = .returned (.bool true) ∧ Below w.heap.size w w' := by
  have HBS := Aside0.mk hBs
  have HSL := Aside0.mk hsl
  have HR0 := Aside0.mk hr0
  have HC0 := Aside0.mk hc0
  obtain ⟨ka, hka⟩ := awake25.rounds
  change batonlaw25_awake.f ka = some true at hka
  have HKA := Aside0.mk hka
  clear hBs hsl hr0 hc0 hka
  have hd : decide ((l.length : Int) > 30) = true := decide_eq_true (by omega)
  go_enter Try.func14, Try.ntmps14
  go_wp2_with (first | ((with_reducible refine gate_dst (N := 3) rfl ?_); refine L_box rfl 130 (.tmp 0) rfl (.agg (arr .u8 sec)) rfl ?_; intro g3 w1 hb3 hg3 hs3 hl3; have HB3 := Aside0.mk hb3; clear hb3; have HG3 := Aside0.mk hg3; clear hg3; have HS3 := Aside0.mk hs3; clear hs3; have HL3 := Aside0.mk hl3; clear hl3) | (go_at_call 55; refine (batonlaw25_awake.calls ka true _ HKA.out).mono ?_; rintro e wa ⟨rfl, hba⟩; have HBA := Aside0.mk hba; clear hba))
  go_ret
  exact ⟨rfl, below_step HL3.out HBA.out⟩
set_option maxHeartbeats 8000000 in
set_option maxRecDepth 100000 in
theorem Finds_wrong (sec : List Int) (A0 : Option Addr) (c0 : Nat) (l : List S115) (id : Int) (w : World) (hsl : sec.length = 32) (hBs : Bytes sec) (hr0 : Kd.C k115 w A0 l.length l) (hc0 : l.length ≤ c0) (hl : l.length ≤ 30) (hw : ¬ RT (-1) (l.map cv)) :
    Calls Try.prog 14 #[.agg (arr .u8 sec), .slice A0 l.length c0, .int .i64 id] w fun e w' => e = .returned (.bool true) ∧ Below w.heap.size w w' := by
  have HBS := Aside0.mk hBs
  have HSL := Aside0.mk hsl
  have HR0 := Aside0.mk hr0
  have HC0 := Aside0.mk hc0
  obtain ⟨ka, hka⟩ := awake25.rounds
  change batonlaw25_awake.f ka = some true at hka
  have HKA := Aside0.mk hka
  clear hBs hsl hr0 hc0 hka
  have hd : decide ((l.length : Int) > 30) = false := decide_eq_false (by omega)
  obtain ⟨kr, hkr⟩ := (Ref_ev l (by omega)).rounds
  obtain ⟨kg, hkg⟩ := (ev_eq (RRight_ev (l.map cv) (by rw [List.length_map]; omega)) (decide_eq_false hw)).rounds
  change batonref25_Right.f kg (l.map cv) = some false at hkg
  obtain ⟨L, hL⟩ : ∃ L, L = l.map cv := ⟨_, rfl⟩
  rw [← hL] at hkg
  have HKG := Aside0.mk hkg
  clear hkg
  change batonlaw25_Ref.f kr l = some (l.map cv) at hkr
  rw [← hL] at hkr
  have HKR := Aside0.mk hkr
  have HLM := Aside0.mk hL
  have HLL := Aside0.mk (show L.length = l.length by rw [hL, List.length_map])
  clear hkr hL
  go_enter Try.func14, Try.ntmps14
  go_wp2_with (first | ((with_reducible refine gate_dst (N := 3) rfl ?_); refine L_box rfl 130 (.tmp 0) rfl (.agg (arr .u8 sec)) rfl ?_; intro g3 w1 hb3 hg3 hs3 hl3; have HB3 := Aside0.mk hb3; clear hb3; have HG3 := Aside0.mk hg3; clear hg3; have HS3 := Aside0.mk hs3; clear hs3; have HL3 := Aside0.mk hl3; clear hl3) | (go_at_call 55; refine (batonlaw25_awake.calls ka true _ HKA.out).mono ?_; rintro e wa ⟨rfl, hba⟩; have HBA := Aside0.mk hba; clear hba) | (go_at_call 59; refine (batonlaw25_Ref.calls kr A0 c0 l L _ (Kd.C_below HR0.out (below_step HL3.out HBA.out)) HC0.out HKR.out).mono ?_; rintro e w4 ⟨v4, rfl, hr4, hb4⟩; obtain ⟨A4, c4, rfl, hle4, hC4⟩ := Kd.R_reads hr4; have HLE4 := Aside0.mk hle4; have HC4 := Aside0.mk hC4; have HB4 := Aside0.mk hb4; clear hr4 hb4 hC4 hle4) | (go_at_call 60; refine (batonref25_Right.calls kg A4 c4 L false _ HC4.out HLE4.out HKG.out).mono ?_; rintro e w5 ⟨rfl, hbg⟩; have HBG := Aside0.mk hbg; clear hbg))
  go_ret
  exact ⟨rfl, below_step (below_step (below_step HL3.out HBA.out) HB4.out) HBG.out⟩
theorem below_of_drawn {w w' : World} (h : Drawn0 w w') : Below w.heap.size w w' := by
  obtain ⟨n, rfl⟩ := h
  exact pw_below_drewN (Below.refl _ _) _
set_option maxHeartbeats 8000000 in
set_option maxRecDepth 100000 in
theorem Finds_absent (sec : List Int) (A0 : Option Addr) (c0 : Nat) (l : List S115) (id : Int) (w : World) (hsl : sec.length = 32) (hBs : Bytes sec) (hr0 : Kd.C k115 w A0 l.length l) (hc0 : l.length ≤ c0) (hl : l.length ≤ 30) (hw : RT (-1) (l.map cv)) (hf : roster_Find.f l id = some (0, 0, false, 0, false)) (he : Ev (fun k => batonref25_Find.f k (l.map cv) id) (-1)) :
    Calls Try.prog 14 #[.agg (arr .u8 sec), .slice A0 l.length c0, .int .i64 id] w fun e w' => e = .returned (.bool true) ∧ Below w.heap.size w w' := by
  have HBS := Aside0.mk hBs
  have HSL := Aside0.mk hsl
  have HR0 := Aside0.mk hr0
  have HC0 := Aside0.mk hc0
  obtain ⟨ka, hka⟩ := awake25.rounds
  change batonlaw25_awake.f ka = some true at hka
  have HKA := Aside0.mk hka
  clear hBs hsl hr0 hc0 hka
  have hd : decide ((l.length : Int) > 30) = false := decide_eq_false (by omega)
  obtain ⟨kr, hkr⟩ := (Ref_ev l (by omega)).rounds
  obtain ⟨kg, hkg⟩ := (ev_eq (RRight_ev (l.map cv) (by rw [List.length_map]; omega)) (decide_eq_true hw)).rounds
  change batonref25_Right.f kg (l.map cv) = some true at hkg
  obtain ⟨L, hL⟩ : ∃ L, L = l.map cv := ⟨_, rfl⟩
  rw [← hL] at hkg
  have HKG := Aside0.mk hkg
  clear hkg
  change batonlaw25_Ref.f kr l = some (l.map cv) at hkr
  rw [← hL] at hkr
  have HKR := Aside0.mk hkr
  obtain ⟨kf, hkf⟩ := he.rounds
  change batonref25_Find.f kf (l.map cv) id = some (-1) at hkf
  rw [← hL] at hkf
  have HKF := Aside0.mk hkf
  have HFF := Aside0.mk hf
  clear hkf hf he
  have HLM := Aside0.mk hL
  have HLL := Aside0.mk (show L.length = l.length by rw [hL, List.length_map])
  clear hkr hL
  obtain ⟨D, hD⟩ : ∃ D : Array Value, D = #[.int .i64 0, .int .i64 0, .bool false, .int .i64 0] := ⟨_, rfl⟩
  have HDE := Aside0.mk hD
  have HDS := Aside0.mk (show D.size = 4 by rw [hD]; rfl)
  obtain ⟨K, hK⟩ : ∃ K : List Int, K = List.replicate 32 0 := ⟨_, rfl⟩
  have HKE := Aside0.mk hK
  have HK32 := Aside0.mk (show K.length = 32 by rw [hK]; simp)
  have heq1 : ∀ W : World, (Op.equalIn 10000 115 (.agg D) (.agg D)).run Try.prog W = .ok true W := fun W => by rw [hD, eqA115 9998]; simp
  have heq2 : ∀ W : World, (Op.equalIn 10000 130 (.agg (arr .u8 K)) (.agg (arr .u8 K))).run Try.prog W = .ok true W := fun W => by rw [run_equalIn_arr W 9998 130 5 32 .u8 Try.underlying130 Try.underlying5 (by kernel_rfl) K K HK32.out HK32.out, decide_eq_true rfl]
  clear hD hK
  go_enter Try.func14, Try.ntmps14
  go_wp2_with (first | ((with_reducible refine gate_dst (N := 3) rfl ?_); refine L_box rfl 130 (.tmp 0) rfl (.agg (arr .u8 sec)) rfl ?_; intro g3 w1 hb3 hg3 hs3 hl3; have HB3 := Aside0.mk hb3; clear hb3; have HG3 := Aside0.mk hg3; clear hg3; have HS3 := Aside0.mk hs3; clear hs3; have HL3 := Aside0.mk hl3; clear hl3) | (go_at_call 55; refine (batonlaw25_awake.calls ka true _ HKA.out).mono ?_; rintro e wa ⟨rfl, hba⟩; have HBA := Aside0.mk hba; clear hba) | (have hq := HBb; go_at_call 59; refine (batonlaw25_Ref.calls kr A0 c0 l L _ (Kd.C_below HR0.out HBb.out) HC0.out HKR.out).mono ?_; rintro e w12 ⟨v12, rfl, hr12, hb12⟩; obtain ⟨A12, c12, rfl, hle12, hC12⟩ := Kd.R_reads hr12; have HLE12 := Aside0.mk hle12; have HC12 := Aside0.mk hC12; have HB12 := Aside0.mk hb12; clear hr12 hb12 hC12 hle12) | (go_at_call 59; refine (batonlaw25_Ref.calls kr A0 c0 l L _ (Kd.C_below HR0.out (below_step HL3.out HBA.out)) HC0.out HKR.out).mono ?_; rintro e w4 ⟨v4, rfl, hr4, hb4⟩; obtain ⟨A4, c4, rfl, hle4, hC4⟩ := Kd.R_reads hr4; have HLE4 := Aside0.mk hle4; have HC4 := Aside0.mk hC4; have HB4 := Aside0.mk hb4; clear hr4 hb4 hC4 hle4) | (go_at_call 60; refine (batonref25_Right.calls kg A4 c4 L true _ HC4.out HLE4.out HKG.out).mono ?_; rintro e w5 ⟨rfl, hbg⟩; have HBG := Aside0.mk hbg; clear hbg) | (go_at_call 58; refine (roster_Find.calls A0 c0 l id 0 0 false 0 false _ (Kd.C_below HR0.out (below_step (below_step (below_step HL3.out HBA.out) HB4.out) HBG.out)) HC0.out HFF.out).mono ?_; rintro e w6 ⟨rfl, hbf⟩; rw [← HDE.out]; have HBF := Aside0.mk hbf; clear hbf) | ((with_reducible refine gate_dst (N := 7) rfl ?_); refine L_alloc rfl 115 rfl (.agg #[.int .i64 0, .int .i64 0, .bool false, .int .i64 0]) 4 (by kernel_rfl) ?_; intro g7 w7 hb7 hg7 hs7 hl7; have HB7 := Aside0.mk hb7; clear hb7; have HG7 := Aside0.mk hg7; clear hg7; have HS7 := Aside0.mk hs7; clear hs7; have HL7 := Aside0.mk hl7; clear hl7) | ((with_reducible refine gate_store (t := 115) (p := 7) rfl ?_); refine L_store rfl rfl 115 (.tmp 7) (.tmp 27) (by rfl) g7 (D) (by rfl) (by rfl) (#[.int .i64 0, .int .i64 0, .bool false, .int .i64 0]) 115 (HB7.out) (by rw [HDS.out] <;> rfl) (by rw [HDS.out] <;> kernel_rfl) (by rw [HDE.out, ← Array.all_toList]; rfl) ?_; intro w8 hbw8 huw8; have HBW8 := Aside0.mk hbw8; clear hbw8; have HUW8 := Aside0.mk huw8; clear huw8; have HB17 : Below w1.heap.size w1 w7 := below_step (below_step (below_step (below_step HBA.out HB4.out) HBG.out) HBF.out) HL7.out; have HB16 : Below w1.heap.size w1 w6 := below_step (below_step (below_step HBA.out HB4.out) HBG.out) HBF.out; have hl3 := blk_lt HB3.out; have h16 := HB16.size; have h7 := HG7.out; have hL3 := HL3.out.size; have HX3 := Aside0.mk ((HUW8.out.block g3 (by omega)).trans ((HB17.block g3 hl3).trans HB3.out)); have HBa := Aside0.mk (HUW8.out.below (below_step HL3.out HB17) (by omega)); clear HB17 HB16 hl3 h16 h7 hL3) | ((with_reducible refine gate_dst (N := 30) rfl ?_); refine L_load rfl 130 (.tmp 3) rfl g3 rfl 130 (arr .u8 sec) _ (HX3.out) Try.underlying130 rfl (by rw [arr_size, HSL.out]; kernel_rfl) ?_) | (go_at_call 68; refine (Secret_absent sec A0 c0 l id _ HSL.out HBS.out (Kd.C_below HR0.out HBa.out) HC0.out HFF.out).mono ?_; rintro e w9 ⟨rfl, hb9s⟩; rw [← HKE.out]; have HBS9 := Aside0.mk hb9s; clear hb9s) | ((with_reducible refine gate_dst (N := 9) rfl ?_); refine L_alloc rfl 130 rfl (.agg (arr .u8 (List.replicate 32 0))) 32 (by kernel_rfl) ?_; intro g9 w10 hb9 hg9 hs9 hl9; have HB9 := Aside0.mk hb9; clear hb9; have HG9 := Aside0.mk hg9; clear hg9; have HS9 := Aside0.mk hs9; clear hs9; have HL9 := Aside0.mk hl9; clear hl9) | ((with_reducible refine gate_store (t := 130) (p := 9) rfl ?_); refine L_store rfl rfl 130 (.tmp 9) (.tmp 34) (by rfl) g9 (arr .u8 K) (by rfl) (by rfl) (arr .u8 (List.replicate 32 0)) 130 (HB9.out) (by rw [arr_size, arr_size, HK32.out]; rfl) (by rw [arr_size, HK32.out]; kernel_rfl) (arr_one _ _) ?_; intro w11 hbw11 huw11; have HBW11 := Aside0.mk hbw11; clear hbw11; have HUW11 := Aside0.mk huw11; clear huw11; have hl7 := blk_lt HBW8.out; have h9 := HG9.out; have hs9 := HBS9.out.size; have hl3 := blk_lt HX3.out; have ha := HBa.out.size; have HY7 := Aside0.mk ((HUW11.out.block g7 (by omega)).trans (((below_step HBS9.out HL9.out).block g7 hl7).trans HBW8.out)); have HY3 := Aside0.mk ((HUW11.out.block g3 (by omega)).trans (((below_step HBS9.out HL9.out).block g3 hl3).trans HX3.out)); have HBb := Aside0.mk (HUW11.out.below (below_step (below_step HBa.out HBS9.out) HL9.out) (by omega)); clear hl7 h9 hs9 hl3 ha) | (go_at_call 69; refine (batonref25_Find.calls kf A12 c12 L id (-1) _ HC12.out HLE12.out HKF.out).mono ?_; rintro e w13 ⟨rfl, hd13⟩; have HBc := Aside0.mk (below_step HB12.out (below_of_drawn hd13)); have HBt := Aside0.mk (below_step HBb.out HBc.out); have HZ7 := Aside0.mk ((HBc.out.block g7 (blk_lt HY7.out)).trans HY7.out); have HZ3 := Aside0.mk ((HBc.out.block g3 (blk_lt HY3.out)).trans HY3.out); have HZ9 := Aside0.mk ((HBc.out.block g9 (blk_lt HBW11.out)).trans HBW11.out); clear hd13) | ((with_reducible refine gate_dst (N := 45) rfl ?_); (try (refine gate_guard (by rfl) ?_; dsimp only)); refine L_load rfl 115 (.tmp 7) rfl g7 rfl 115 (D) _ (HZ7.out) Try.underlying115 rfl (by rw [HDS.out] <;> kernel_rfl) ?_) | ((with_reducible refine gate_dst (N := 46) rfl ?_); (try (refine gate_guard (by rfl) ?_; dsimp only)); refine L_build rfl 115 _ rfl D (by rw [HDE.out]; kernel_rfl) ?_) | ((with_reducible refine gate_dst (N := 54) rfl ?_); (try (refine gate_guard (by rfl) ?_; dsimp only)); refine L_load rfl 130 (.tmp 9) rfl g9 rfl 130 (arr .u8 K) _ (HZ9.out) Try.underlying130 rfl (by rw [arr_size, HK32.out]; kernel_rfl) ?_) | ((with_reducible refine gate_dst (N := 55) rfl ?_); (try (refine gate_guard (by rfl) ?_; dsimp only)); refine L_build rfl 130 _ rfl (arr .u8 K) (by rw [HKE.out]; kernel_rfl) ?_))
  go_ret
  exact ⟨rfl, HBt.out⟩
section
variable {P : Program} {ops : Array Oper} {rest : List Oper} {o : Oper} {a : Act} {W : World} {Q : Exit → Act → World → Prop}
theorem run_loadVar_list (w : World) (ty : TypeId) (ad : Addr) (cs : List Value) (d : TypeDesc) (hc : ∀ j v, cs[j]? = some v → w.cell? (ad.add j) = some v)
    (hu : P.underlying ty = some d) (hd : (match d with | .struct _ | .array _ _ => true | _ => false) = true) (hi : (P.info? ty).map (·.size) = some cs.length) :
    (loadVar ty ad).run P w = .ok (.agg cs.toArray) w := by
  have hl : (loadCells ad cs.length).run P w = .ok cs.toArray w := run_loadCells_list (P := P) w ad cs hc
  cases hq : P.info? ty with
  | none => simp [hq] at hi
  | some i =>
    have hs : i.size = cs.length := by simpa [hq] using hi
    have hagg : (isAgg ty).run P w = .ok true w := by
      unfold isAgg
      rw [Sem.run_bind, run_underlying hu w]
      cases d <;> simp_all
    simp [loadVar, Sem.run_bind, hagg, sizeOf, typeInfo, hq, hs, hl]
theorem run_load_list (ty : TypeId) (x : Operand) (ho : o.op = .load ty x) (ad : Addr) (hx : a.eval x = .pointer (some ad)) (cs : List Value) (d : TypeDesc) (hc : ∀ j v, cs[j]? = some v → W.cell? (ad.add j) = some v)
    (hu : P.underlying ty = some d) (hd : (match d with | .struct _ | .array _ _ => true | _ => false) = true) (hi : (P.info? ty).map (·.size) = some cs.length) : (execOp a.eval o).run P W = .ok (.value (.agg cs.toArray)) W := by
  unfold execOp
  simp only [ho, hx, Instr.loadAt, Instr.sureAddr, Sem.run_bind, Sem.run_pure, Result.andThen_ok, run_loadVar_list W ty ad cs d hc hu hd hi]
end
section
variable {P : Program} {ops : Array Oper} {Q : Exit → Act → World → Prop} {t : Nat → Value → World → Prop} {fresh : Nat → Bool} {i : Nat} {o : Oper} {a : Act} {w : World}
/-- The place of an element of a slice of parts of s cells. -/
theorem A_ixslice (hw : Region.wanted o (yielded ops a.tmps) = true) (ty e : TypeId) (s : Nat) (x y : Operand) (ho : o.op = .indexAddr ty x y) (ht : P.underlying ty = some (.slice e)) (hsz : (P.info? e).map (·.size) = some s) (ad : Addr) (n c : Nat) (hx : a.eval x = .slice (some ad) n c) (k : Nat) (hy : a.eval y = .int .i64 (k : Int)) (hk : k < n)
    (hv : t i (.pointer (some (ad.add (k * s)))) w) (hf : fresh i = false) : Step ops t fresh P Q i o a w := by
  refine A_value hw _ ?_ hv hf
  cases hq : P.info? e with
  | none => simp [hq] at hsz
  | some ii =>
    have hs : ii.size = s := by simpa [hq] using hsz
    simp [execOp, ho, hx, hy, Instr.indexAt, Instr.sureAddr, asIntOf, run_underlying ht, sizeOf, typeInfo, hq, hs]
    omega
end
theorem dev_cells {w : World} {A : Option Addr} {l : List S115} (h : Kd.C k115 w A l.length l) (i : Nat) (hi : i < l.length) (y : S115) (hy : l[i] = y) : ∃ ad, A = some ad ∧ ∀ j v, ([.int .i64 y.f0, .int .i64 y.f1, .bool y.f2, .int .i64 y.f3] : List Value)[j]? = some v → w.cell? ((ad.add (i * 4)).add j) = some v := by
  obtain ⟨ad, e, hc⟩ := h.2.2 (by omega)
  obtain ⟨cs, h1, h2, h3⟩ := hc i l[i] (List.getElem?_eq_getElem hi)
  obtain rfl := k115_open h2
  refine ⟨ad, e, fun j v hv => ?_⟩
  have h4 := h3 j v (by rw [hy]; exact hv)
  have e4 : (ad.add (i * 4)).add j = ad.add (i * k115.sz + j) := by
    show (ad.add (i * 4)).add j = ad.add (i * 4 + j)
    rcases Nat.eq_zero_or_pos j with rfl | hj
    · simp [Addr.add]
    · rw [add_field _ _ _ hj]
      generalize ad.add (i * 4) = e
      simp [Addr.add, Nat.ne_of_gt hj]
  rw [e4]
  exact h4
set_option maxHeartbeats 8000000 in
set_option maxRecDepth 100000 in
theorem Finds_found (sec : List Int) (A0 : Option Addr) (c0 : Nat) (l : List S115) (id : Int) (w : World) (hsl : sec.length = 32) (hBs : Bytes sec) (hr0 : Kd.C k115 w A0 l.length l) (hc0 : l.length ≤ c0) (hl : l.length ≤ 30) (hw : RT (-1) (l.map cv)) (i : Nat) (hi : i < l.length) (y : S115) (hy : l[i] = y) (hf : roster_Find.f l id = some (y.f0, y.f1, y.f2, y.f3, true)) (he : Ev (fun k => batonref25_Find.f k (l.map cv) id) (i : Int)) :
    Calls Try.prog 14 #[.agg (arr .u8 sec), .slice A0 l.length c0, .int .i64 id] w fun e w' => e = .returned (.bool true) ∧ Below w.heap.size w w' := by
  have HBS := Aside0.mk hBs
  have HSL := Aside0.mk hsl
  have HR0 := Aside0.mk hr0
  have HC0 := Aside0.mk hc0
  obtain ⟨ka, hka⟩ := awake25.rounds
  change batonlaw25_awake.f ka = some true at hka
  have HKA := Aside0.mk hka
  clear hBs hsl hr0 hc0 hka
  have hd : decide ((l.length : Int) > 30) = false := decide_eq_false (by omega)
  obtain ⟨kr, hkr⟩ := (Ref_ev l (by omega)).rounds
  obtain ⟨kg, hkg⟩ := (ev_eq (RRight_ev (l.map cv) (by rw [List.length_map]; omega)) (decide_eq_true hw)).rounds
  change batonref25_Right.f kg (l.map cv) = some true at hkg
  obtain ⟨L, hL⟩ : ∃ L, L = l.map cv := ⟨_, rfl⟩
  rw [← hL] at hkg
  have HKG := Aside0.mk hkg
  clear hkg
  change batonlaw25_Ref.f kr l = some (l.map cv) at hkr
  rw [← hL] at hkr
  have HKR := Aside0.mk hkr
  obtain ⟨kf, hkf⟩ := he.rounds
  change batonref25_Find.f kf (l.map cv) id = some (i : Int) at hkf
  rw [← hL] at hkf
  have HKF := Aside0.mk hkf
  have HFF := Aside0.mk hf
  have HI := Aside0.mk hi
  have HY := Aside0.mk hy
  clear hkf hf he
  have hneg : decide ((i : Int) < 0) = false := decide_eq_false (by omega)
  have HLM := Aside0.mk hL
  have HLL := Aside0.mk (show L.length = l.length by rw [hL, List.length_map])
  clear hkr hL
  obtain ⟨D, hD⟩ : ∃ D : Array Value, D = #[.int .i64 y.f0, .int .i64 y.f1, .bool y.f2, .int .i64 y.f3] := ⟨_, rfl⟩
  have HDE := Aside0.mk hD
  have HDS := Aside0.mk (show D.size = 4 by rw [hD]; rfl)
  obtain ⟨K, hK⟩ : ∃ K : List Int, K = keyL sec { data := #[100, 101, 118, 105, 99, 101] } [id, y.f1] := ⟨_, rfl⟩
  have HKE := Aside0.mk hK
  have HK32 := Aside0.mk (show K.length = 32 by rw [hK]; exact keyL_length _ _ _)
  have heq1 : ∀ W : World, (Op.equalIn 10000 115 (.agg D) (.agg D)).run Try.prog W = .ok true W := fun W => by rw [hD, eqA115 9998]; simp
  have heq2 : ∀ W : World, (Op.equalIn 10000 130 (.agg (arr .u8 K)) (.agg (arr .u8 K))).run Try.prog W = .ok true W := fun W => by rw [run_equalIn_arr W 9998 130 5 32 .u8 Try.underlying130 Try.underlying5 (by kernel_rfl) K K HK32.out HK32.out, decide_eq_true rfl]
  clear hD hK
  go_enter Try.func14, Try.ntmps14
  go_wp2_with (first | ((with_reducible refine gate_dst (N := 3) rfl ?_); refine L_box rfl 130 (.tmp 0) rfl (.agg (arr .u8 sec)) rfl ?_; intro g3 w1 hb3 hg3 hs3 hl3; have HB3 := Aside0.mk hb3; clear hb3; have HG3 := Aside0.mk hg3; clear hg3; have HS3 := Aside0.mk hs3; clear hs3; have HL3 := Aside0.mk hl3; clear hl3) | (go_at_call 55; refine (batonlaw25_awake.calls ka true _ HKA.out).mono ?_; rintro e wa ⟨rfl, hba⟩; have HBA := Aside0.mk hba; clear hba) | (have hq := HBb; go_at_call 59; refine (batonlaw25_Ref.calls kr A0 c0 l L _ (Kd.C_below HR0.out HBb.out) HC0.out HKR.out).mono ?_; rintro e w12 ⟨v12, rfl, hr12, hb12⟩; obtain ⟨A12, c12, rfl, hle12, hC12⟩ := Kd.R_reads hr12; have HLE12 := Aside0.mk hle12; have HC12 := Aside0.mk hC12; have HB12 := Aside0.mk hb12; clear hr12 hb12 hC12 hle12) | (go_at_call 59; refine (batonlaw25_Ref.calls kr A0 c0 l L _ (Kd.C_below HR0.out (below_step HL3.out HBA.out)) HC0.out HKR.out).mono ?_; rintro e w4 ⟨v4, rfl, hr4, hb4⟩; obtain ⟨A4, c4, rfl, hle4, hC4⟩ := Kd.R_reads hr4; have HLE4 := Aside0.mk hle4; have HC4 := Aside0.mk hC4; have HB4 := Aside0.mk hb4; clear hr4 hb4 hC4 hle4) | (go_at_call 60; refine (batonref25_Right.calls kg A4 c4 L true _ HC4.out HLE4.out HKG.out).mono ?_; rintro e w5 ⟨rfl, hbg⟩; have HBG := Aside0.mk hbg; clear hbg) | (go_at_call 58; refine (roster_Find.calls A0 c0 l id y.f0 y.f1 y.f2 y.f3 true _ (Kd.C_below HR0.out (below_step (below_step (below_step HL3.out HBA.out) HB4.out) HBG.out)) HC0.out HFF.out).mono ?_; rintro e w6 ⟨rfl, hbf⟩; rw [← HDE.out]; have HBF := Aside0.mk hbf; clear hbf) | ((with_reducible refine gate_dst (N := 7) rfl ?_); refine L_alloc rfl 115 rfl (.agg #[.int .i64 0, .int .i64 0, .bool false, .int .i64 0]) 4 (by kernel_rfl) ?_; intro g7 w7 hb7 hg7 hs7 hl7; have HB7 := Aside0.mk hb7; clear hb7; have HG7 := Aside0.mk hg7; clear hg7; have HS7 := Aside0.mk hs7; clear hs7; have HL7 := Aside0.mk hl7; clear hl7) | ((with_reducible refine gate_store (t := 115) (p := 7) rfl ?_); refine L_store rfl rfl 115 (.tmp 7) (.tmp 27) (by rfl) g7 (D) (by rfl) (by rfl) (#[.int .i64 0, .int .i64 0, .bool false, .int .i64 0]) 115 (HB7.out) (by rw [HDS.out] <;> rfl) (by rw [HDS.out] <;> kernel_rfl) (by rw [HDE.out, ← Array.all_toList]; rfl) ?_; intro w8 hbw8 huw8; have HBW8 := Aside0.mk hbw8; clear hbw8; have HUW8 := Aside0.mk huw8; clear huw8; have HB17 : Below w1.heap.size w1 w7 := below_step (below_step (below_step (below_step HBA.out HB4.out) HBG.out) HBF.out) HL7.out; have HB16 : Below w1.heap.size w1 w6 := below_step (below_step (below_step HBA.out HB4.out) HBG.out) HBF.out; have hl3 := blk_lt HB3.out; have h16 := HB16.size; have h7 := HG7.out; have hL3 := HL3.out.size; have HX3 := Aside0.mk ((HUW8.out.block g3 (by omega)).trans ((HB17.block g3 hl3).trans HB3.out)); have HBa := Aside0.mk (HUW8.out.below (below_step HL3.out HB17) (by omega)); clear HB17 HB16 hl3 h16 h7 hL3) | ((with_reducible refine gate_dst (N := 30) rfl ?_); refine L_load rfl 130 (.tmp 3) rfl g3 rfl 130 (arr .u8 sec) _ (HX3.out) Try.underlying130 rfl (by rw [arr_size, HSL.out]; kernel_rfl) ?_) | (go_at_call 68; refine (Secret_found sec A0 c0 l id y.f0 y.f1 y.f2 y.f3 _ HSL.out HBS.out (Kd.C_below HR0.out HBa.out) HC0.out HFF.out).mono ?_; rintro e w9 ⟨rfl, hb9s⟩; rw [← HKE.out]; have HBS9 := Aside0.mk hb9s; clear hb9s) | ((with_reducible refine gate_dst (N := 9) rfl ?_); refine L_alloc rfl 130 rfl (.agg (arr .u8 (List.replicate 32 0))) 32 (by kernel_rfl) ?_; intro g9 w10 hb9 hg9 hs9 hl9; have HB9 := Aside0.mk hb9; clear hb9; have HG9 := Aside0.mk hg9; clear hg9; have HS9 := Aside0.mk hs9; clear hs9; have HL9 := Aside0.mk hl9; clear hl9) | ((with_reducible refine gate_store (t := 130) (p := 9) rfl ?_); refine L_store rfl rfl 130 (.tmp 9) (.tmp 34) (by rfl) g9 (arr .u8 K) (by rfl) (by rfl) (arr .u8 (List.replicate 32 0)) 130 (HB9.out) (by rw [arr_size, arr_size, HK32.out]; rfl) (by rw [arr_size, HK32.out]; kernel_rfl) (arr_one _ _) ?_; intro w11 hbw11 huw11; have HBW11 := Aside0.mk hbw11; clear hbw11; have HUW11 := Aside0.mk huw11; clear huw11; have hl7 := blk_lt HBW8.out; have h9 := HG9.out; have hs9 := HBS9.out.size; have hl3 := blk_lt HX3.out; have ha := HBa.out.size; have HY7 := Aside0.mk ((HUW11.out.block g7 (by omega)).trans (((below_step HBS9.out HL9.out).block g7 hl7).trans HBW8.out)); have HY3 := Aside0.mk ((HUW11.out.block g3 (by omega)).trans (((below_step HBS9.out HL9.out).block g3 hl3).trans HX3.out)); have HBb := Aside0.mk (HUW11.out.below (below_step (below_step HBa.out HBS9.out) HL9.out) (by omega)); clear hl7 h9 hs9 hl3 ha) | (go_at_call 69; refine (batonref25_Find.calls kf A12 c12 L id (i : Int) _ HC12.out HLE12.out HKF.out).mono ?_; rintro e w13 ⟨rfl, hd13⟩; have HBc := Aside0.mk (below_step HB12.out (below_of_drawn hd13)); have HBt := Aside0.mk (below_step HBb.out HBc.out); have HZ7 := Aside0.mk ((HBc.out.block g7 (blk_lt HY7.out)).trans HY7.out); have HZ3 := Aside0.mk ((HBc.out.block g3 (blk_lt HY3.out)).trans HY3.out); have HZ9 := Aside0.mk ((HBc.out.block g9 (blk_lt HBW11.out)).trans HBW11.out); clear hd13))
  have HEQ1 := Aside0.mk heq1
  obtain ⟨ad, hA, q0⟩ := dev_cells HR0.out i HI.out y HY.out
  subst hA
  clear q0
  refine region_facts (by kernel_rfl) (getS [fun v _ => v = (.bool true), fun v _ => v = (.bool true), fun v _ => v = (.agg D), fun v _ => v = (.slice (some ad) l.length c0), fun v _ => v = (.int .i64 (i : Int)), fun v _ => v = (.pointer (some (ad.add (i * 4)))), fun v _ => v = (.agg D), fun v _ => v = (.bool true), fun v _ => v = (.bool true), fun v _ => v = (.bool true), fun v _ => v = (.int .i64 0), fun v _ => v = (.bool true), fun v _ => v = (.bool true), fun v _ => v = (.bool true), fun v _ => v = (.agg (arr .u8 (K))), fun v _ => v = (.agg (arr .u8 (sec))), fun v _ => v = (.int .i64 id), fun v _ => v = (.slice (some ad) l.length c0), fun v _ => v = (.int .i64 (i : Int)), fun v _ => v = (.pointer (some (ad.add (i * 4)))), fun v _ => v = (.pointer (some ((ad.add (i * 4)).add 1))), fun v _ => v = (.int .i64 y.f1), fun v w => ∃ g, v = .slice (some ⟨g, 0, none⟩) 2 2 ∧ w.heap[g]? = some (.cells (arr .i64 [id, y.f1]) 3 (0, 0)), fun v _ => v = (.agg (arr .u8 (K))), fun v _ => v = (.bool true), fun v _ => v = (.bool true), fun v _ => v = (.bool true)]) (fun _ => false) 27 (by kernel_rfl) (AllStab.spec (.cons (stab_val _) (.cons (stab_val _) (.cons (stab_val _) (.cons (stab_val _) (.cons (stab_val _) (.cons (stab_val _) (.cons (stab_val _) (.cons (stab_val _) (.cons (stab_val _) (.cons (stab_val _) (.cons (stab_val _) (.cons (stab_val _) (.cons (stab_val _) (.cons (stab_val _) (.cons (stab_val _) (.cons (stab_val _) (.cons (stab_val _) (.cons (stab_val _) (.cons (stab_val _) (.cons (stab_val _) (.cons (stab_val _) (.cons (stab_val _) (.cons (stab_row _ _ _ _ _) (.cons (stab_val _) (.cons (stab_val _) (.cons (stab_val _) (.cons (stab_val _) .nil)))))))))))))))))))))))))))) (dst_of (by kernel_rfl)) (EachOp.of ?rop14_10) ?rfin14_10
  case rop14_10 =>
    refine .cons (fun did a W h hd => ?_) ?_
    · have k8 : a.eval (.tmp 8) = .bool true := h.kept 8 (by kernel_rfl)
      exact A_move (wanted_none rfl) _ rfl ((.bool true)) k8 rfl rfl
    refine .cons (fun did a W h hd => ?_) ?_
    · have f0 : a.eval (.tmp 58) = (.bool true) := h.fact 0 (by decide) (hd 0 (by kernel_rfl))
      exact A_move (wanted_none rfl) _ rfl ((.bool true)) f0 rfl rfl
    refine .cons (fun did a W h hd => ?_) ?_
    · have k7 : a.eval (.tmp 7) = .pointer (some ⟨g7, 0, none⟩) := h.kept 7 (by kernel_rfl)
      have f1 : a.eval (.tmp 59) = (.bool true) := h.fact 1 (by decide) (hd 1 (by kernel_rfl))
      exact A_load (wanted_yes (j := 1) rfl rfl rfl f1) 115 (.tmp 7) rfl g7 k7 115 (D) _ ((h.below.block g7 (blk_lt HZ7.out)).trans HZ7.out) Try.underlying115 rfl (by rw [HDS.out] <;> kernel_rfl) rfl rfl
    refine .cons (fun did a W h hd => ?_) ?_
    · have k1 : a.eval (.tmp 1) = .slice (some ad) l.length c0 := h.kept 1 (by kernel_rfl)
      have f1 : a.eval (.tmp 59) = (.bool true) := h.fact 1 (by decide) (hd 1 (by kernel_rfl))
      exact A_move (wanted_yes (j := 1) rfl rfl rfl f1) _ rfl ((.slice (some ad) l.length c0)) k1 rfl rfl
    refine .cons (fun did a W h hd => ?_) ?_
    · have k11 : a.eval (.tmp 11) = .int .i64 (i : Int) := h.kept 11 (by kernel_rfl)
      have f1 : a.eval (.tmp 59) = (.bool true) := h.fact 1 (by decide) (hd 1 (by kernel_rfl))
      exact A_move (wanted_yes (j := 1) rfl rfl rfl f1) _ rfl ((.int .i64 (i : Int))) k11 rfl rfl
    refine .cons (fun did a W h hd => ?_) ?_
    · have f1 : a.eval (.tmp 59) = (.bool true) := h.fact 1 (by decide) (hd 1 (by kernel_rfl))
      have f3 : a.eval (.tmp 61) = (.slice (some ad) l.length c0) := h.fact 3 (by decide) (hd 3 (by kernel_rfl))
      have f4 : a.eval (.tmp 62) = (.int .i64 (i : Int)) := h.fact 4 (by decide) (hd 4 (by kernel_rfl))
      exact A_ixslice (wanted_yes (j := 1) rfl rfl rfl f1) 110 115 4 (.tmp 61) (.tmp 62) rfl Try.underlying110 (by kernel_rfl) ad l.length c0 f3 i f4 HI.out rfl rfl
    refine .cons (fun did a W h hd => ?_) ?_
    · have f1 : a.eval (.tmp 59) = (.bool true) := h.fact 1 (by decide) (hd 1 (by kernel_rfl))
      have f5 : a.eval (.tmp 63) = (.pointer (some (ad.add (i * 4)))) := h.fact 5 (by decide) (hd 5 (by kernel_rfl))
      have HQ := dev_cells (Kd.C_below HR0.out ((below_drew HBt.out).trans (h.below.mono HBt.out.size))) i HI.out y HY.out
      obtain ⟨ad', hA', q⟩ := HQ
      obtain rfl : ad = ad' := by injection hA'
      exact A_value (wanted_yes (j := 1) rfl rfl rfl f1) _ (by rw [run_load_list 115 (.tmp 63) rfl _ f5 _ _ q Try.underlying115 rfl (by kernel_rfl)]) (by show Value.agg _ = Value.agg D; rw [HDE.out]) rfl
    refine .cons (fun did a W h hd => ?_) ?_
    · have f1 : a.eval (.tmp 59) = (.bool true) := h.fact 1 (by decide) (hd 1 (by kernel_rfl))
      have f2 : a.eval (.tmp 60) = (.agg D) := h.fact 2 (by decide) (hd 2 (by kernel_rfl))
      have f6 : a.eval (.tmp 64) = (.agg D) := h.fact 6 (by decide) (hd 6 (by kernel_rfl))
      have h1 : (binOp .eql 115 (.agg D) (.agg D)).run Try.prog W = .ok (.bool true) W := (by have := HEQ1.out W; simp [binOp, Op.equal, Op.maxDepth, this])
      exact A_value (wanted_yes (j := 1) rfl rfl rfl f1) (.bool true) (by simp [execOp, f2, f6, run_eqGuard_agg (P := Try.prog) W .eql 115 (.tmp 60) (.tmp 64) D D (by kernel_rfl), h1]) rfl rfl
    refine .cons (fun did a W h hd => ?_) ?_
    · have f1 : a.eval (.tmp 59) = (.bool true) := h.fact 1 (by decide) (hd 1 (by kernel_rfl))
      have f7 : a.eval (.tmp 65) = (.bool true) := h.fact 7 (by decide) (hd 7 (by kernel_rfl))
      exact A_pick (wanted_none rfl) _ _ _ rfl _ f1 ((.bool true)) (by rw [if_pos rfl]; exact f7) rfl rfl
    refine .cons (fun did a W h hd => ?_) ?_
    · have f1 : a.eval (.tmp 59) = (.bool true) := h.fact 1 (by decide) (hd 1 (by kernel_rfl))
      have f8 : a.eval (.tmp 66) = (.bool true) := h.fact 8 (by decide) (hd 8 (by kernel_rfl))
      exact A_move (wanted_none rfl) _ rfl ((.bool true)) f8 rfl rfl
    refine .cons (fun did a W h hd => ?_) ?_
    · have k10 : a.eval (.tmp 10) = .int .i64 0 := h.kept 10 (by kernel_rfl)
      have f9 : a.eval (.tmp 67) = (.bool true) := h.fact 9 (by decide) (hd 9 (by kernel_rfl))
      exact A_move (wanted_yes (j := 9) rfl rfl rfl f9) _ rfl ((.int .i64 0)) k10 rfl rfl
    refine .cons (fun did a W h hd => ?_) ?_
    · have f9 : a.eval (.tmp 67) = (.bool true) := h.fact 9 (by decide) (hd 9 (by kernel_rfl))
      have f10 : a.eval (.tmp 68) = (.int .i64 0) := h.fact 10 (by decide) (hd 10 (by kernel_rfl))
      exact A_bin (wanted_yes (j := 9) rfl rfl rfl f9) _ _ _ _ _ rfl _ _ f10 (by rfl) (.bool true) (by simp [eqGuard, binOp, Op.equal, Op.maxDepth, go_sem, Try.underlying27]) rfl rfl
    refine .cons (fun did a W h hd => ?_) ?_
    · have f9 : a.eval (.tmp 67) = (.bool true) := h.fact 9 (by decide) (hd 9 (by kernel_rfl))
      have f11 : a.eval (.tmp 69) = (.bool true) := h.fact 11 (by decide) (hd 11 (by kernel_rfl))
      exact A_pick (wanted_none rfl) _ _ _ rfl _ f9 ((.bool true)) (by rw [if_pos rfl]; exact f11) rfl rfl
    refine .cons (fun did a W h hd => ?_) ?_
    · have f9 : a.eval (.tmp 67) = (.bool true) := h.fact 9 (by decide) (hd 9 (by kernel_rfl))
      have f12 : a.eval (.tmp 70) = (.bool true) := h.fact 12 (by decide) (hd 12 (by kernel_rfl))
      exact A_move (wanted_none rfl) _ rfl ((.bool true)) f12 rfl rfl
    refine .cons (fun did a W h hd => ?_) ?_
    · have k9 : a.eval (.tmp 9) = .pointer (some ⟨g9, 0, none⟩) := h.kept 9 (by kernel_rfl)
      have f13 : a.eval (.tmp 71) = (.bool true) := h.fact 13 (by decide) (hd 13 (by kernel_rfl))
      exact A_load (wanted_yes (j := 13) rfl rfl rfl f13) 130 (.tmp 9) rfl g9 k9 130 (arr .u8 K) _ ((h.below.block g9 (blk_lt HZ9.out)).trans HZ9.out) Try.underlying130 rfl (by rw [arr_size, HK32.out]; kernel_rfl) rfl rfl
    refine .cons (fun did a W h hd => ?_) ?_
    · have k3 : a.eval (.tmp 3) = .pointer (some ⟨g3, 0, none⟩) := h.kept 3 (by kernel_rfl)
      have f13 : a.eval (.tmp 71) = (.bool true) := h.fact 13 (by decide) (hd 13 (by kernel_rfl))
      exact A_load (wanted_yes (j := 13) rfl rfl rfl f13) 130 (.tmp 3) rfl g3 k3 130 (arr .u8 sec) _ ((h.below.block g3 (blk_lt HZ3.out)).trans HZ3.out) Try.underlying130 rfl (by rw [arr_size, HSL.out]; kernel_rfl) rfl rfl
    refine .cons (fun did a W h hd => ?_) ?_
    · have k2 : a.eval (.tmp 2) = .int .i64 id := h.kept 2 (by kernel_rfl)
      have f13 : a.eval (.tmp 71) = (.bool true) := h.fact 13 (by decide) (hd 13 (by kernel_rfl))
      exact A_move (wanted_yes (j := 13) rfl rfl rfl f13) _ rfl ((.int .i64 id)) k2 rfl rfl
    refine .cons (fun did a W h hd => ?_) ?_
    · have k1 : a.eval (.tmp 1) = .slice (some ad) l.length c0 := h.kept 1 (by kernel_rfl)
      have f13 : a.eval (.tmp 71) = (.bool true) := h.fact 13 (by decide) (hd 13 (by kernel_rfl))
      exact A_move (wanted_yes (j := 13) rfl rfl rfl f13) _ rfl ((.slice (some ad) l.length c0)) k1 rfl rfl
    refine .cons (fun did a W h hd => ?_) ?_
    · have k11 : a.eval (.tmp 11) = .int .i64 (i : Int) := h.kept 11 (by kernel_rfl)
      have f13 : a.eval (.tmp 71) = (.bool true) := h.fact 13 (by decide) (hd 13 (by kernel_rfl))
      exact A_move (wanted_yes (j := 13) rfl rfl rfl f13) _ rfl ((.int .i64 (i : Int))) k11 rfl rfl
    refine .cons (fun did a W h hd => ?_) ?_
    · have f13 : a.eval (.tmp 71) = (.bool true) := h.fact 13 (by decide) (hd 13 (by kernel_rfl))
      have f17 : a.eval (.tmp 75) = (.slice (some ad) l.length c0) := h.fact 17 (by decide) (hd 17 (by kernel_rfl))
      have f18 : a.eval (.tmp 76) = (.int .i64 (i : Int)) := h.fact 18 (by decide) (hd 18 (by kernel_rfl))
      exact A_ixslice (wanted_yes (j := 13) rfl rfl rfl f13) 110 115 4 (.tmp 75) (.tmp 76) rfl Try.underlying110 (by kernel_rfl) ad l.length c0 f17 i f18 HI.out rfl rfl
    refine .cons (fun did a W h hd => ?_) ?_
    · have f13 : a.eval (.tmp 71) = (.bool true) := h.fact 13 (by decide) (hd 13 (by kernel_rfl))
      have f19 : a.eval (.tmp 77) = (.pointer (some (ad.add (i * 4)))) := h.fact 19 (by decide) (hd 19 (by kernel_rfl))
      have e19 := f19
      simp only [Act.eval, Array.getD_eq_getD_getElem?] at e19
      exact A_value (wanted_yes (j := 13) rfl rfl rfl f13) (.pointer (some ((ad.add (i * 4)).add 1))) (by simp [execOp, go_sem, e19]) rfl rfl
    refine .cons (fun did a W h hd => ?_) ?_
    · have f13 : a.eval (.tmp 71) = (.bool true) := h.fact 13 (by decide) (hd 13 (by kernel_rfl))
      have f20 : a.eval (.tmp 78) = (.pointer (some ((ad.add (i * 4)).add 1))) := h.fact 20 (by decide) (hd 20 (by kernel_rfl))
      have HQ := dev_cells (Kd.C_below HR0.out ((below_drew HBt.out).trans (h.below.mono HBt.out.size))) i HI.out y HY.out
      obtain ⟨ad', hA', q⟩ := HQ
      obtain rfl : ad = ad' := by injection hA'
      exact A_load1 (wanted_yes (j := 13) rfl rfl rfl f13) 3 (.tmp 78) rfl _ Try.underlying3 rfl _ f20 (.int .i64 y.f1) (q 1 _ rfl) rfl rfl
    refine .cons (fun did a W h hd => ?_) ?_
    · have f13 : a.eval (.tmp 71) = (.bool true) := h.fact 13 (by decide) (hd 13 (by kernel_rfl))
      have f16 : a.eval (.tmp 74) = (.int .i64 id) := h.fact 16 (by decide) (hd 16 (by kernel_rfl))
      have f21 : a.eval (.tmp 79) = (.int .i64 y.f1) := h.fact 21 (by decide) (hd 21 (by kernel_rfl))
      exact A_bslice (wanted_yes (j := 13) rfl rfl rfl f13) 86 3 2 _ rfl Try.underlying86 [(0, .int .i64 id), (1, .int .i64 y.f1)] (by simp only [List.map_toArray, List.map_cons, List.map_nil, f16, f21] <;> rfl) (arr .i64 [id, y.f1]) (by kernel_rfl) (fun g w' h1 h2 => ⟨g, rfl, h1⟩)
    refine .cons (fun did a W h hd => ?_) ?_
    · have f13 : a.eval (.tmp 71) = (.bool true) := h.fact 13 (by decide) (hd 13 (by kernel_rfl))
      have f15 : a.eval (.tmp 73) = (.agg (arr .u8 (sec))) := h.fact 15 (by decide) (hd 15 (by kernel_rfl))
      obtain ⟨g22_, f22, b22⟩ : ∃ g, a.eval (.tmp 80) = .slice (some ⟨g, 0, none⟩) 2 2 ∧ W.heap[g]? = some (.cells (arr .i64 [id, y.f1]) 3 (0, 0)) := h.fact 22 (by decide) (hd 22 (by kernel_rfl))
      exact A_call (wanted_yes (j := 13) rfl rfl rfl f13) 70 #[.tmp 73, .const (.string { data := #[100, 101, 118, 105, 99, 101] }), .tmp 80] #[130, 9, 86] rfl #[(.agg (arr .u8 (sec))), .string { data := #[100, 101, 118, 105, 99, 101] }, .slice (some ⟨g22_, 0, none⟩) 2 2] (by simp only [List.map_toArray, List.map_cons, List.map_nil, f15, f22] <;> rfl) (by kernel_rfl) (by rw [HKE.out]; exact (refKey_calls sec { data := #[100, 101, 118, 105, 99, 101] } (some ⟨g22_, 0, none⟩) 2 [id, y.f1] _ HSL.out HBS.out (by decide) (C_arr (xs := [id, y.f1]) b22 (by simp)) (by simp) (by simp)).mono fun e w' hh => ⟨_, hh.1, hh.2, rfl⟩) rfl
    refine .cons (fun did a W h hd => ?_) ?_
    · have f13 : a.eval (.tmp 71) = (.bool true) := h.fact 13 (by decide) (hd 13 (by kernel_rfl))
      have f14 : a.eval (.tmp 72) = (.agg (arr .u8 (K))) := h.fact 14 (by decide) (hd 14 (by kernel_rfl))
      have f23 : a.eval (.tmp 81) = (.agg (arr .u8 (K))) := h.fact 23 (by decide) (hd 23 (by kernel_rfl))
      exact A_eqarr (wanted_yes (j := 13) rfl rfl rfl f13) 130 5 32 .u8 (.tmp 72) (.tmp 81) 130 rfl Try.underlying130 Try.underlying5 (by kernel_rfl) (by kernel_rfl) K K f14 f23 HK32.out HK32.out true (decide_eq_true rfl) rfl rfl
    refine .cons (fun did a W h hd => ?_) ?_
    · have f13 : a.eval (.tmp 71) = (.bool true) := h.fact 13 (by decide) (hd 13 (by kernel_rfl))
      have f24 : a.eval (.tmp 82) = (.bool true) := h.fact 24 (by decide) (hd 24 (by kernel_rfl))
      exact A_pick (wanted_none rfl) _ _ _ rfl _ f13 ((.bool true)) (by rw [if_pos rfl]; exact f24) rfl rfl
    refine .cons (fun did a W h hd => ?_) ?_
    · have f0 : a.eval (.tmp 58) = (.bool true) := h.fact 0 (by decide) (hd 0 (by kernel_rfl))
      have f1 : a.eval (.tmp 59) = (.bool true) := h.fact 1 (by decide) (hd 1 (by kernel_rfl))
      have f2 : a.eval (.tmp 60) = (.agg D) := h.fact 2 (by decide) (hd 2 (by kernel_rfl))
      have f3 : a.eval (.tmp 61) = (.slice (some ad) l.length c0) := h.fact 3 (by decide) (hd 3 (by kernel_rfl))
      have f4 : a.eval (.tmp 62) = (.int .i64 (i : Int)) := h.fact 4 (by decide) (hd 4 (by kernel_rfl))
      have f5 : a.eval (.tmp 63) = (.pointer (some (ad.add (i * 4)))) := h.fact 5 (by decide) (hd 5 (by kernel_rfl))
      have f6 : a.eval (.tmp 64) = (.agg D) := h.fact 6 (by decide) (hd 6 (by kernel_rfl))
      have f7 : a.eval (.tmp 65) = (.bool true) := h.fact 7 (by decide) (hd 7 (by kernel_rfl))
      have f8 : a.eval (.tmp 66) = (.bool true) := h.fact 8 (by decide) (hd 8 (by kernel_rfl))
      have f9 : a.eval (.tmp 67) = (.bool true) := h.fact 9 (by decide) (hd 9 (by kernel_rfl))
      have f10 : a.eval (.tmp 68) = (.int .i64 0) := h.fact 10 (by decide) (hd 10 (by kernel_rfl))
      have f11 : a.eval (.tmp 69) = (.bool true) := h.fact 11 (by decide) (hd 11 (by kernel_rfl))
      have f12 : a.eval (.tmp 70) = (.bool true) := h.fact 12 (by decide) (hd 12 (by kernel_rfl))
      have f13 : a.eval (.tmp 71) = (.bool true) := h.fact 13 (by decide) (hd 13 (by kernel_rfl))
      have f14 : a.eval (.tmp 72) = (.agg (arr .u8 (K))) := h.fact 14 (by decide) (hd 14 (by kernel_rfl))
      have f15 : a.eval (.tmp 73) = (.agg (arr .u8 (sec))) := h.fact 15 (by decide) (hd 15 (by kernel_rfl))
      have f16 : a.eval (.tmp 74) = (.int .i64 id) := h.fact 16 (by decide) (hd 16 (by kernel_rfl))
      have f17 : a.eval (.tmp 75) = (.slice (some ad) l.length c0) := h.fact 17 (by decide) (hd 17 (by kernel_rfl))
      have f18 : a.eval (.tmp 76) = (.int .i64 (i : Int)) := h.fact 18 (by decide) (hd 18 (by kernel_rfl))
      have f19 : a.eval (.tmp 77) = (.pointer (some (ad.add (i * 4)))) := h.fact 19 (by decide) (hd 19 (by kernel_rfl))
      have f20 : a.eval (.tmp 78) = (.pointer (some ((ad.add (i * 4)).add 1))) := h.fact 20 (by decide) (hd 20 (by kernel_rfl))
      have f21 : a.eval (.tmp 79) = (.int .i64 y.f1) := h.fact 21 (by decide) (hd 21 (by kernel_rfl))
      obtain ⟨g22_, f22, b22⟩ : ∃ g, a.eval (.tmp 80) = .slice (some ⟨g, 0, none⟩) 2 2 ∧ W.heap[g]? = some (.cells (arr .i64 [id, y.f1]) 3 (0, 0)) := h.fact 22 (by decide) (hd 22 (by kernel_rfl))
      have f23 : a.eval (.tmp 81) = (.agg (arr .u8 (K))) := h.fact 23 (by decide) (hd 23 (by kernel_rfl))
      have f24 : a.eval (.tmp 82) = (.bool true) := h.fact 24 (by decide) (hd 24 (by kernel_rfl))
      have f25 : a.eval (.tmp 83) = (.bool true) := h.fact 25 (by decide) (hd 25 (by kernel_rfl))
      exact A_assign (wanted_none rfl) _ rfl ((.bool true)) f25 rfl rfl
    exact .nil
  case rfin14_10 =>
    intro a W h
    refine wpAny_done (by kernel_rfl) ?_ _
    have f0 : a.eval (.tmp 58) = (.bool true) := h.fact 0 (by decide) trivial
    have f1 : a.eval (.tmp 59) = (.bool true) := h.fact 1 (by decide) trivial
    have f2 : a.eval (.tmp 60) = (.agg D) := h.fact 2 (by decide) trivial
    have f3 : a.eval (.tmp 61) = (.slice (some ad) l.length c0) := h.fact 3 (by decide) trivial
    have f4 : a.eval (.tmp 62) = (.int .i64 (i : Int)) := h.fact 4 (by decide) trivial
    have f5 : a.eval (.tmp 63) = (.pointer (some (ad.add (i * 4)))) := h.fact 5 (by decide) trivial
    have f6 : a.eval (.tmp 64) = (.agg D) := h.fact 6 (by decide) trivial
    have f7 : a.eval (.tmp 65) = (.bool true) := h.fact 7 (by decide) trivial
    have f8 : a.eval (.tmp 66) = (.bool true) := h.fact 8 (by decide) trivial
    have f9 : a.eval (.tmp 67) = (.bool true) := h.fact 9 (by decide) trivial
    have f10 : a.eval (.tmp 68) = (.int .i64 0) := h.fact 10 (by decide) trivial
    have f11 : a.eval (.tmp 69) = (.bool true) := h.fact 11 (by decide) trivial
    have f12 : a.eval (.tmp 70) = (.bool true) := h.fact 12 (by decide) trivial
    have f13 : a.eval (.tmp 71) = (.bool true) := h.fact 13 (by decide) trivial
    have f14 : a.eval (.tmp 72) = (.agg (arr .u8 (K))) := h.fact 14 (by decide) trivial
    have f15 : a.eval (.tmp 73) = (.agg (arr .u8 (sec))) := h.fact 15 (by decide) trivial
    have f16 : a.eval (.tmp 74) = (.int .i64 id) := h.fact 16 (by decide) trivial
    have f17 : a.eval (.tmp 75) = (.slice (some ad) l.length c0) := h.fact 17 (by decide) trivial
    have f18 : a.eval (.tmp 76) = (.int .i64 (i : Int)) := h.fact 18 (by decide) trivial
    have f19 : a.eval (.tmp 77) = (.pointer (some (ad.add (i * 4)))) := h.fact 19 (by decide) trivial
    have f20 : a.eval (.tmp 78) = (.pointer (some ((ad.add (i * 4)).add 1))) := h.fact 20 (by decide) trivial
    have f21 : a.eval (.tmp 79) = (.int .i64 y.f1) := h.fact 21 (by decide) trivial
    obtain ⟨g22_, f22, b22⟩ : ∃ g, a.eval (.tmp 80) = .slice (some ⟨g, 0, none⟩) 2 2 ∧ W.heap[g]? = some (.cells (arr .i64 [id, y.f1]) 3 (0, 0)) := h.fact 22 (by decide) trivial
    have f23 : a.eval (.tmp 81) = (.agg (arr .u8 (K))) := h.fact 23 (by decide) trivial
    have f24 : a.eval (.tmp 82) = (.bool true) := h.fact 24 (by decide) trivial
    have f25 : a.eval (.tmp 83) = (.bool true) := h.fact 25 (by decide) trivial
    have f26 : a.eval (.tmp 6) = (.bool true) := h.fact 26 (by decide) trivial
    have ha : a = puts _ [(58, (.bool true)), (59, (.bool true)), (60, (.agg D)), (61, (.slice (some ad) l.length c0)), (62, (.int .i64 (i : Int))), (63, (.pointer (some (ad.add (i * 4))))), (64, (.agg D)), (65, (.bool true)), (66, (.bool true)), (67, (.bool true)), (68, (.int .i64 0)), (69, (.bool true)), (70, (.bool true)), (71, (.bool true)), (72, (.agg (arr .u8 (K)))), (73, (.agg (arr .u8 (sec)))), (74, (.int .i64 id)), (75, (.slice (some ad) l.length c0)), (76, (.int .i64 (i : Int))), (77, (.pointer (some (ad.add (i * 4))))), (78, (.pointer (some ((ad.add (i * 4)).add 1)))), (79, (.int .i64 y.f1)), (80, Value.slice (some ⟨g22_, 0, none⟩) 2 2), (81, (.agg (arr .u8 (K)))), (82, (.bool true)), (83, (.bool true)), (6, (.bool true))] := frame_puts _ h.size h.defers h.kept (by kernel_rfl) (.cons f0 (.cons f1 (.cons f2 (.cons f3 (.cons f4 (.cons f5 (.cons f6 (.cons f7 (.cons f8 (.cons f9 (.cons f10 (.cons f11 (.cons f12 (.cons f13 (.cons f14 (.cons f15 (.cons f16 (.cons f17 (.cons f18 (.cons f19 (.cons f20 (.cons f21 (.cons f22 (.cons f23 (.cons f24 (.cons f25 (.cons f26 (.nil))))))))))))))))))))))))))))
    have hbel := h.below
    subst ha
    simp only [puts, Act.put, List.setIfInBounds_toArray, List.set_cons_zero, List.set_cons_succ]
    clear h
    go_wp2
    go_ret
    exact ⟨rfl, (below_drew HBt.out).trans (hbel.mono HBt.out.size)⟩
set_option maxHeartbeats 8000000 in
set_option maxRecDepth 100000 in
theorem RosterFinds_calls (sec : List Int) (A0 : Option Addr) (c0 : Nat) (l : List S115) (id : Int) (w : World) (hsl : sec.length = 32) (hBs : Bytes sec) (hr0 : Kd.C k115 w A0 l.length l) (hc0 : l.length ≤ c0) :
    Calls Try.prog 14 #[.agg (arr .u8 sec), .slice A0 l.length c0, .int .i64 id] w fun e w' => e = .returned (.bool true) ∧ Below w.heap.size w w' := by
  have HBS := Aside0.mk hBs
  have HSL := Aside0.mk hsl
  have HR0 := Aside0.mk hr0
  have HC0 := Aside0.mk hc0
  obtain ⟨ka, hka⟩ := awake25.rounds
  change batonlaw25_awake.f ka = some true at hka
  have HKA := Aside0.mk hka
  clear hBs hsl hr0 hc0 hka
  by_cases hl : l.length ≤ 30
  · by_cases hw : RT (-1) (l.map cv)
    · rcases finds l id hw hl with ⟨h1, h2⟩ | ⟨i, hi, h1, h2⟩
      · exact Finds_absent sec A0 c0 l id w HSL.out HBS.out HR0.out HC0.out hl hw h1 h2
      · exact Finds_found sec A0 c0 l id w HSL.out HBS.out HR0.out HC0.out hl hw i hi l[i] rfl h1 h2
    · exact Finds_wrong sec A0 c0 l id w HSL.out HBS.out HR0.out HC0.out hl hw
  · exact Finds_long sec A0 c0 l id w HSL.out HBS.out HR0.out HC0.out (by omega)
end Go.Proofs.Ytdbfclfglpbpmaa.Rf
