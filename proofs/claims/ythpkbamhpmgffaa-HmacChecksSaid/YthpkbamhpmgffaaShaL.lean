/- Hand-written walks and plain lemmas of sha, hmac, keys: what each Go function comes to. No condition. -/
import Derived.Test.YthpkbamhpmgffaaShaQ
import Derived.ChangeKeysEq
import Derived.Laws.StructEq
namespace Go.Proofs.Ythpkbamhpmgffaa.Sha
open Go.RowKit Go.Proofs.YthpkbamhpmgffaaW.Hand Go.Proofs.YthpkbamhpmgffaaW.PrintWords Go.Proofs.YthpkbamhpmgffaaW.PrintLast Go.Proofs.YthpkbamhpmgffaaW.PrintMore Go.Proofs.Ythpkbamhpmgffaa.PF02 Go.Proofs.Ythpkbamhpmgffaa.Base Go.Proofs.Ythpkbamhpmgffaa.LF02
set_option linter.unusedVariables false
set_option linter.unusedSimpArgs false

theorem all_rd (xs ys : List Int) : ∀ (n : Nat), xs.length = n → ys.length = n → (List.range' 0 n 1).all (fun i => rd xs (i : Nat) == rd ys (i : Nat)) = decide (xs = ys) := by
  intro n hx hy
  rw [Bool.eq_iff_iff, List.all_eq_true, decide_eq_true_iff]
  constructor
  · intro h
    refine List.ext_getElem (by omega) (fun i h1 h2 => ?_)
    have := h i (by rw [List.mem_range'_1]; omega)
    rw [rd_lt h1, rd_lt h2] at this
    simpa using this
  · rintro rfl i _
    simp
/-- '==' of two arrays of whole numbers. -/
theorem run_equalIn_arr {P : Program} (w : World) (d : Nat) (t e : TypeId) (n : Nat) (k : IntKind) (ht : P.underlying t = some (.array n e)) (he : P.underlying e = some (.int k)) (hsz : (P.info? e).map (·.size) = some 1)
    (xs ys : List Int) (hx : xs.length = n) (hy : ys.length = n) : (Op.equalIn (d + 2) t (.agg (arr k xs)) (.agg (arr k ys))).run P w = .ok (decide (xs = ys)) w := by
  have hsz' : ∀ w, (sizeOf e).run P w = .ok 1 w := by
    intro w
    cases hq : P.info? e with
    | none => simp [hq] at hsz
    | some i =>
      have : i.size = 1 := by simpa [hq] using hsz
      simp [sizeOf, typeInfo, hq, this]
  rw [← all_rd xs ys n hx hy, Op.equalIn]
  simp only [Sem.run_bind, run_underlying ht, Result.andThen_ok, hsz', Std.Legacy.Range.forIn_eq_forIn_range', Std.Legacy.Range.size, Nat.sub_zero, Nat.add_sub_cancel, Nat.div_one]
  have hl : ∀ i ∈ List.range' 0 n 1, i < n := fun i hi => by simpa using (List.mem_range'_1.1 hi).2
  generalize List.range' 0 n 1 = l at hl ⊢
  induction l with
  | nil => simp
  | cons i l ih =>
    have hi : i < n := hl i (by simp)
    have px : (part e (arr k xs) (i * 1)).run P w = .ok (.int k (rd xs (i : Nat))) w := by
      have := arr_get k xs i (by omega)
      simp [part, isAgg, run_underlying he, this]
    have py : (part e (arr k ys) (i * 1)).run P w = .ok (.int k (rd ys (i : Nat))) w := by
      have := arr_get k ys i (by omega)
      simp [part, isAgg, run_underlying he, this]
    have pe : (Op.equalIn (d + 1) e (.int k (rd xs (i : Nat))) (.int k (rd ys (i : Nat)))).run P w = .ok (rd xs (i : Nat) == rd ys (i : Nat)) w := run_equalIn_int w d e k k _ _ he
    have ih' := ih (fun j hj => hl j (by simp [hj]))
    simp only [List.forIn_cons, Sem.run_bind, px, py, pe, Result.andThen_ok, List.all_cons]
    cases hb : (rd xs (i : Nat) == rd ys (i : Nat)) with
    | true => simpa using ih'
    | false => simp
set_option maxRecDepth 100000 in
theorem sha_abc : shaL [97, 98, 99] = [186, 120, 22, 191, 143, 1, 207, 234, 65, 65, 64, 222, 93, 174, 34, 35, 176, 3, 97, 163, 150, 23, 122, 156, 180, 16, 255, 97, 242, 0, 21, 173] := by decide +kernel
set_option maxHeartbeats 8000000 in
set_option maxRecDepth 100000 in
theorem awake02_calls (w : World) : Calls Try.prog 13 #[] w fun e w' => e = .returned (.bool true) ∧ Below w.heap.size w w' := by
  have hB : Bytes [97, 98, 99] := by intro x hx; simp at hx; omega
  have HBB := Aside0.mk hB
  clear hB
  go_enter Try.func13, Try.ntmps13
  go_wp2_with (first | (go_at_call 21; refine (Sum_calls (some ⟨w.heap.size, 0, none⟩) 3 [97, 98, 99] _ (C_new w .u8 5 (0, 0) [97, 98, 99] _ rfl (by simp)) (by simp) HBB.out (by simp)).mono ?_; rintro e w2 ⟨rfl, hb2⟩; rw [sha_abc]; have HB2 := Aside0.mk hb2; clear hb2) | ((with_reducible refine gate_dst (N := 1) rfl ?_); refine L_alloc rfl 38 rfl (.agg (arr .u8 (List.replicate 32 0))) 32 (by kernel_rfl) ?_; intro g1 w3 hb1 hg1 hs1 hl1; have HB1 := Aside0.mk hb1; clear hb1; have HG1 := Aside0.mk hg1; clear hg1; have HS1 := Aside0.mk hs1; clear hs1; have HL1 := Aside0.mk hl1; clear hl1) | (refine L_store rfl rfl 38 (.tmp 1) (.tmp 3) (by rfl) g1 (arr .u8 [186, 120, 22, 191, 143, 1, 207, 234, 65, 65, 64, 222, 93, 174, 34, 35, 176, 3, 97, 163, 150, 23, 122, 156, 180, 16, 255, 97, 242, 0, 21, 173]) (by rfl) (by rfl) (arr .u8 (List.replicate 32 0)) 38 (HB1.out) (by rfl) (by kernel_rfl) (arr_one _ _) ?_; intro w4 hbw4 huw4; have HBW4 := Aside0.mk hbw4; clear hbw4; have HUW4 := Aside0.mk huw4; clear huw4; have hc0 : w4.cell? ⟨g1, 0, none⟩ = some (.int .u8 186) := (blk_cell HBW4.out 0).trans rfl; have hc1 : w4.cell? ⟨g1, 1, none⟩ = some (.int .u8 120) := (blk_cell HBW4.out 1).trans rfl; have hc31 : w4.cell? ⟨g1, 31, none⟩ = some (.int .u8 173) := (blk_cell HBW4.out 31).trans rfl))
  go_ret
  exact ⟨rfl, HUW4.out.below (below_step ((below_alloc (Below.refl _ _) _).trans (HB2.out.mono (by simp))) HL1.out) (by have := HG1.out; have := HB2.out.size; simp at this; omega)⟩

theorem C_arr {k : IntKind} {w : World} {g t : Nat} {xs : List Int} (hb : w.heap[g]? = some (.cells (arr k xs) t (0, 0))) (hl : xs.length ≤ 1000000) : Kd.C (Kd.int k) w (some ⟨g, 0, none⟩) xs.length xs := by
  refine ⟨rfl, by omega, fun hp => ⟨_, rfl, fun j p hj => ⟨[.int k p], rfl, rfl, fun i u hu => ?_⟩⟩⟩
  have hi : i = 0 := by
    have := (List.getElem?_eq_some_iff.1 hu).1
    simp at this
    omega
  subst hi
  have e : Value.int k p = u := by simpa using hu
  subst e
  rw [show (Kd.int k).sz = 1 from rfl, Nat.mul_one, Nat.add_zero, add_plain, blk_cell hb j]
  unfold arr
  rw [List.getElem?_toArray, List.getElem?_map, hj]
  rfl
/-- A row of bytes that was handed back new. -/
def NewRow (w w' : World) (e : Ending) (xs : List Int) : Prop := ∃ A c, e = .returned (.slice A xs.length c) ∧ xs.length ≤ c ∧ Kd.C (Kd.int .u8) w' A xs.length xs ∧ Below w.heap.size w w'
theorem newRow_of {w w' : World} {e : Ending} {xs : List Int} {ok : Nat → Prop} (h : ∃ v0_ : Value, e = .returned v0_ ∧ Kd.R (Kd.int .u8) 5 w' w.heap.size ok v0_ xs ∧ Below w.heap.size w w') : NewRow w w' e xs := by
  obtain ⟨v, rfl, hr, hb⟩ := h
  obtain ⟨A, c, rfl, hl, hc⟩ := Kd.R_reads hr
  exact ⟨A, c, rfl, hl, hc, hb⟩
theorem refSum_calls (A : Option Addr) (c : Nat) (b : List Int) (w : World) (hC : Kd.C (Kd.int .u8) w A b.length b) (hcc : b.length ≤ c) (hb : Bytes b) (hl : b.length ≤ 1000000000) : Calls Try.prog 22 #[.slice A b.length c] w fun e w' => NewRow w w' e (shaL b) := by
  obtain ⟨k, hk⟩ := (refSum_ev b hb (by omega)).rounds
  exact (batonref02_Sum.calls k A c b _ w hC hcc hk).mono fun e w' h => newRow_of h
theorem same_calls (A : Option Addr) (c : Nat) (xs : List Int) (A1 : Option Addr) (c1 : Nat) (ys : List Int) (w : World) (hC : Kd.C (Kd.int .u8) w A xs.length xs) (hcc : xs.length ≤ c) (hC1 : Kd.C (Kd.int .u8) w A1 ys.length ys) (hcc1 : ys.length ≤ c1) (hl : xs.length ≤ 1000000000000000000) : Calls Try.prog 18 #[.slice A xs.length c, .slice A1 ys.length c1] w fun e w' => e = .returned (.bool (decide (xs = ys))) ∧ ∃ m, w' = w.drewN m := by
  obtain ⟨k, hk⟩ := (Same_ev xs ys (by omega)).rounds
  exact (batonref01_Same.calls k A c xs A1 c1 ys _ w hC hcc hC1 hcc1 hk).mono fun e w' ⟨h1, h2⟩ => ⟨h1, h2.out⟩
set_option maxHeartbeats 8000000 in
set_option maxRecDepth 100000 in
theorem ShaSums_calls (A : Option Addr) (c : Nat) (b : List Int) (w : World) (hC : Kd.C (Kd.int .u8) w A b.length b) (hcc : b.length ≤ c) (hB : Bytes b) : Calls Try.prog 5 #[.slice A b.length c] w fun e w' => e = .returned (.bool true) ∧ Below w.heap.size w w' := by
  have HC := Aside0.mk hC
  have HBB := Aside0.mk hB
  clear hC hB
  by_cases hlen : b.length > 400
  · go_enter Try.func5, Try.ntmps5
    go_wp2_with (go_at_call 13; refine (awake02_calls _).mono ?_; rintro e w1 ⟨rfl, hb1⟩; have HB1 := Aside0.mk hb1; clear hb1)
    go_ret
    exact ⟨rfl, HB1.out⟩
  · go_enter Try.func5, Try.ntmps5
    go_wp2_with (first | (go_at_call 13; refine (awake02_calls _).mono ?_; rintro e w1 ⟨rfl, hb1⟩; have HB1 := Aside0.mk hb1; clear hb1) | (go_at_call 21; refine (Sum_calls A c b _ (Kd.C_below HC.out HB1.out) hcc HBB.out (by omega)).mono ?_; rintro e w2 ⟨rfl, hb2⟩; have HB2 := Aside0.mk hb2; clear hb2) | ((with_reducible refine gate_dst (N := 3) rfl ?_); refine L_alloc rfl 38 rfl (.agg (arr .u8 (List.replicate 32 0))) 32 (by kernel_rfl) ?_; intro g3 w3 hb3 hg3 hs3 hl3; have HB3 := Aside0.mk hb3; clear hb3; have HG3 := Aside0.mk hg3; clear hg3; have HS3 := Aside0.mk hs3; clear hs3; have HL3 := Aside0.mk hl3; clear hl3) | (refine L_store rfl rfl 38 (.tmp 3) (.tmp 10) (by rfl) g3 (arr .u8 (shaL b)) (by rfl) (by rfl) (arr .u8 (List.replicate 32 0)) 38 (HB3.out) (by rw [arr_size, arr_size, shaL_length]; rfl) (by rw [arr_size, shaL_length]; kernel_rfl) (arr_one _ _) ?_; intro w4 hbw4 huw4; have HBW4 := Aside0.mk hbw4; clear hbw4; have HUW4 := Aside0.mk huw4; clear huw4))
    have hS32 := shaL_length b
    have hCk : Kd.C (Kd.int .u8) w4 (some ⟨g3, 0, none⟩) (shaL b).length (shaL b) := C_arr HBW4.out (by omega)
    have hb4 : Below w.heap.size w w4 := HUW4.out.below (below_step (below_step HB1.out HB2.out) HL3.out) (by have := HG3.out; have := HB1.out.size; have := HB2.out.size; omega)
    have HB4 := Aside0.mk hb4
    have HCA := Aside0.mk (Kd.C_below HC.out hb4)
    have hsame : ∀ (W : World) (A5 : Option Addr) (c5 : Nat), Kd.C (Kd.int .u8) W (some ⟨g3, 0, none⟩) (shaL b).length (shaL b) → Kd.C (Kd.int .u8) W A5 (shaL b).length (shaL b) → (shaL b).length ≤ c5 → Calls Try.prog 18 #[.slice (some ⟨g3, 0, none⟩) 32 32, .slice A5 (shaL b).length c5] W fun e w' => e = .returned (.bool true) ∧ ∃ m, w' = W.drewN m := by
      intro W A5 c5 h1 h2 h3
      have := same_calls (some ⟨g3, 0, none⟩) 32 (shaL b) A5 c5 (shaL b) W h1 (by omega) h2 h3 (by omega)
      rw [decide_eq_true rfl, hS32] at this
      rw [hS32]
      exact this
    have HSAME := Aside0.mk hsame
    have HCK := Aside0.mk hCk
    clear hsame hCk hb4 hS32 HBW4 HUW4 HB2 HB1 HL3 HG3 HS3 HB3
    go_region_with ((first | (go_at_call 22; refine (refSum_calls A c b _ (by first | with_reducible exact Kd.C_drew HCA.out | with_reducible exact HCA.out) hcc HBB.out (by omega)).mono ?_; rintro e w5 ⟨A5, c5, rfl, hle5, hC5, hb5⟩; have HC5 := Aside0.mk hC5; have HB5 := Aside0.mk hb5; clear hC5 hb5) | (go_at_call 18; refine (HSAME.out _ A5 c5 (Kd.C_below (by first | with_reducible exact Kd.C_drew HCK.out | with_reducible exact HCK.out) HB5.out) HC5.out hle5).mono ?_; rintro e w6 ⟨rfl, m, rfl⟩)))
    go_wp2
    go_ret
    exact ⟨rfl, pw_below_drewN (below_step (below_drew HB4.out) HB5.out) _⟩
end Go.Proofs.Ythpkbamhpmgffaa.Sha
