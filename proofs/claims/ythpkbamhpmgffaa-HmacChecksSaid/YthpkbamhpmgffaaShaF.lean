/- Hand-written walks and plain lemmas of sha, hmac, keys: what each Go function comes to. No condition. -/
import Derived.Test.YthpkbamhpmgffaaShaE
namespace Go.Proofs.Ythpkbamhpmgffaa.Sha
open Go.RowKit Go.Proofs.YthpkbamhpmgffaaW.Hand Go.Proofs.YthpkbamhpmgffaaW.PrintWords Go.Proofs.YthpkbamhpmgffaaW.PrintLast Go.Proofs.YthpkbamhpmgffaaW.PrintMore Go.Proofs.Ythpkbamhpmgffaa.PF02 Go.Proofs.Ythpkbamhpmgffaa.Base Go.Proofs.Ythpkbamhpmgffaa.LF02
set_option linter.unusedVariables false
set_option linter.unusedSimpArgs false

theorem one1 {u : Value} (hu : u.oneCell' = true) : (#[u] : Array Value).all (·.oneCell') = true := by simp [hu]
theorem QB.one {w : World} {base : Nat} {v : Value} {xs : List Int} (h : QB w base v xs) : v.oneCell' = true := by
  obtain ⟨A, c, rfl, _⟩ := h.slice
  rfl
theorem add_block (a : Addr) (n : Nat) : (a.add n).block = a.block := by unfold Addr.add; split <;> rfl
theorem Upd.refl (w : World) (g : Nat) : Upd w w g := ⟨rfl, rfl, rfl, rfl, fun _ _ => rfl⟩
theorem Upd.setCell {w w' : World} {g : Nat} (h : Upd w w' g) (i : Nat) (u : Value) : Upd w (w'.setCell ⟨g, i, none⟩ u) g :=
  ⟨h.os, h.tape, h.output, by rw [← h.size]; simp [World.setCell], fun k hk => (Below.heap_setCell w' ⟨g, i, none⟩ u k hk).trans (h.block k hk)⟩
theorem own_slice_block (A : Option Addr) (n c : Nat) : (Value.slice A n c).ownBlock = A.map (·.block) := by cases A <;> rfl
theorem hcells_set (h : List Int) (v : Value) (n : Int) (i : Nat) (hi : i < h.length) (y : Int) : (hcells h v n).setIfInBounds i (.int .u32 y) = hcells (h.set i y) v n := by
  unfold hcells
  simp [List.set_append, hi, List.map_set]
theorem hcells_setv (h : List Int) (v v' : Value) (n : Int) : (hcells h v n).setIfInBounds h.length v' = hcells h v' n := by
  unfold hcells
  simp
theorem hset {w : World} {g : Nat} {h : List Int} {v : Value} {n : Int} (hb : w.heap[g]? = some (.cells (hcells h v n) 79 (0, 0))) (i : Nat) (hi : i < h.length) (y : Int) : (w.setCell ⟨g, i, none⟩ (.int .u32 y)).heap[g]? = some (.cells (hcells (h.set i y) v n) 79 (0, 0)) := by rw [← hcells_set h v n i hi y]; exact blk_set hb i _
theorem hsetv {w : World} {g : Nat} {h : List Int} {v : Value} {n : Int} (hb : w.heap[g]? = some (.cells (hcells h v n) 79 (0, 0))) (v' : Value) : (w.setCell ⟨g, h.length, none⟩ v').heap[g]? = some (.cells (hcells h v' n) 79 (0, 0)) := by rw [← hcells_setv h v v' n]; exact blk_set hb _ _
theorem hset9 {w : World} {g : Nat} {x0 x1 x2 x3 x4 x5 x6 x7 y0 y1 y2 y3 y4 y5 y6 y7 n : Int} {v : Value} (hb : w.heap[g]? = some (.cells (hcells [x0, x1, x2, x3, x4, x5, x6, x7] v n) 79 (0, 0))) (v' : Value) : (((((((((w.setCell ⟨g, 0, none⟩ (.int .u32 y0)).setCell ⟨g, 1, none⟩ (.int .u32 y1)).setCell ⟨g, 2, none⟩ (.int .u32 y2)).setCell ⟨g, 3, none⟩ (.int .u32 y3)).setCell ⟨g, 4, none⟩ (.int .u32 y4)).setCell ⟨g, 5, none⟩ (.int .u32 y5)).setCell ⟨g, 6, none⟩ (.int .u32 y6)).setCell ⟨g, 7, none⟩ (.int .u32 y7)).setCell ⟨g, 8, none⟩ v').heap[g]? = some (.cells (hcells [y0, y1, y2, y3, y4, y5, y6, y7] v' n) 79 (0, 0)) := by
  have h0 := hset hb 0 (by simp) y0
  have h1 := hset h0 1 (by simp) y1
  have h2 := hset h1 2 (by simp) y2
  have h3 := hset h2 3 (by simp) y3
  have h4 := hset h3 4 (by simp) y4
  have h5 := hset h4 5 (by simp) y5
  have h6 := hset h5 6 (by simp) y6
  have h7 := hset h6 7 (by simp) y7
  exact hsetv h7 v'
theorem keepF {w w' : World} {g : Nat} {x0 x1 x2 x3 x4 x5 x6 x7 n : Int} {v : Value} (hb : w.heap[g]? = some (.cells (hcells [x0, x1, x2, x3, x4, x5, x6, x7] v n) 79 (0, 0))) (hB : Below w.heap.size w w') : w'.frozen? ⟨g, 8, none⟩ = false := blk_frozen ((hB.block g (blk_lt hb)).trans hb) 8
theorem keepS {w w' : World} {g : Nat} {x0 x1 x2 x3 x4 x5 x6 x7 n : Int} {v : Value} (hb : w.heap[g]? = some (.cells (hcells [x0, x1, x2, x3, x4, x5, x6, x7] v n) 79 (0, 0))) (hB : Below w.heap.size w w') : w'.cell? ⟨g, 0, none⟩ = some (.int .u32 x0) ∧ w'.cell? ⟨g, 1, none⟩ = some (.int .u32 x1) ∧ w'.cell? ⟨g, 2, none⟩ = some (.int .u32 x2) ∧ w'.cell? ⟨g, 3, none⟩ = some (.int .u32 x3) ∧ w'.cell? ⟨g, 4, none⟩ = some (.int .u32 x4) ∧ w'.cell? ⟨g, 5, none⟩ = some (.int .u32 x5) ∧ w'.cell? ⟨g, 6, none⟩ = some (.int .u32 x6) ∧ w'.cell? ⟨g, 7, none⟩ = some (.int .u32 x7) ∧ w'.cell? ⟨g, 8, none⟩ = some v ∧ w'.frozen? ⟨g, 0, none⟩ = false ∧ w'.frozen? ⟨g, 1, none⟩ = false ∧ w'.frozen? ⟨g, 2, none⟩ = false ∧ w'.frozen? ⟨g, 3, none⟩ = false ∧ w'.frozen? ⟨g, 4, none⟩ = false ∧ w'.frozen? ⟨g, 5, none⟩ = false ∧ w'.frozen? ⟨g, 6, none⟩ = false ∧ w'.frozen? ⟨g, 7, none⟩ = false := by
  have h := (hB.block g (blk_lt hb)).trans hb
  exact ⟨(blk_cell h 0).trans rfl, (blk_cell h 1).trans rfl, (blk_cell h 2).trans rfl, (blk_cell h 3).trans rfl, (blk_cell h 4).trans rfl, (blk_cell h 5).trans rfl, (blk_cell h 6).trans rfl, (blk_cell h 7).trans rfl, (blk_cell h 8).trans rfl, blk_frozen h 0, blk_frozen h 1, blk_frozen h 2, blk_frozen h 3, blk_frozen h 4, blk_frozen h 5, blk_frozen h 6, blk_frozen h 7⟩
/-- Bytes that are read lie in no Hash. -/
theorem C_upd {w w' : World} {g t : Nat} {h : List Int} {v : Value} {n : Int} {A : Option Addr} {xs : List Int} (hC : Kd.C (Kd.int .u8) w A xs.length xs) (hU : Upd w w' g) (hg : w.heap[g]? = some (.cells (hcells h v n) t (0, 0))) (hv : ∃ A' m c', v = .slice A' m c') : Kd.C (Kd.int .u8) w' A xs.length xs := by
  obtain ⟨h1, h2, h3⟩ := hC
  refine ⟨h1, h2, fun hp => ?_⟩
  obtain ⟨ad, e, hc⟩ := h3 hp
  refine ⟨ad, e, fun j p hj => ?_⟩
  obtain ⟨cs, e1, e2, e3⟩ := hc j p hj
  refine ⟨cs, e1, e2, fun i u hu => ?_⟩
  have e4 := e3 i u hu
  have hne : (ad.add (j * (Kd.int .u8).sz + i)).block ≠ g := by
    intro hb
    have e5 : cs = [.int .u8 p] := e2
    subst e5
    have hi : i = 0 := by
      have := (List.getElem?_eq_some_iff.1 hu).1
      simp at this
      omega
    subst hi
    have hu' : Value.int .u8 p = u := by simpa using hu
    subst hu'
    unfold World.cell? at e4
    rw [hb, hg] at e4
    simp only at e4
    split at e4
    · cases e4
    · unfold hcells at e4
      rw [List.getElem?_toArray] at e4
      have hm := List.mem_of_getElem? e4
      obtain ⟨A', m, c', rfl⟩ := hv
      simp at hm
  unfold World.cell? at e4 ⊢
  rw [hU.block _ hne]
  exact e4
set_option maxHeartbeats 8000000 in
set_option maxRecDepth 100000 in
theorem Write_calls (g : Nat) (h : List Int) (hh : h.length = 8) (v : Value) (n : Int) (rest b : List Int) (A : Option Addr) (c base : Nat) (w : World) (hg : w.heap[g]? = some (.cells (hcells h v n) 79 (0, 0))) (hbg : base ≤ g) (hbase : base ≤ w.heap.size) (hQ : QB w base v rest) (hBr : Bytes rest) (hC : Kd.C (Kd.int .u8) w A b.length b) (hcc : b.length ≤ c) (hBb : Bytes b)
    (hl : rest.length + b.length ≤ 1000000000000) (hn0 : 0 ≤ n) (hn1 : n ≤ 1000000000000) :
    Calls Try.prog 24 #[.pointer (some ⟨g, 0, none⟩), .slice A b.length c] w fun e w' => ∃ v', e = .returned (.tuple #[]) ∧ w'.heap[g]? = some (.cells (hcells (eat h (rest ++ b) ((rest ++ b).length / 64)) v' (n + b.length)) 79 (0, 0)) ∧ QB w' base v' ((rest ++ b).drop (64 * ((rest ++ b).length / 64))) ∧ Below base w w' ∧ Kept w w' (fun k => k = g ∨ v.ownBlock = some k) ∧ (v'.ownBlock = v.ownBlock ∨ ∃ k, v'.ownBlock = some k ∧ w.heap.size ≤ k) := by
  obtain ⟨a0, a1, a2, a3, a4, a5, a6, a7, rfl⟩ := eight hh
  obtain ⟨Av, cv, rfl, hcv⟩ := hQ.slice
  have hc8 : w.cell? ⟨g, 8, none⟩ = some (.slice Av rest.length cv) := (blk_cell hg 8).trans rfl
  have hc9 : w.cell? ⟨g, 9, none⟩ = some (.int .i64 n) := (blk_cell hg 9).trans rfl
  have HG := Aside0.mk hg
  have HQ := Aside0.mk hQ
  have HC := Aside0.mk hC
  have HBR := Aside0.mk hBr
  have HBB := Aside0.mk hBb
  have hne : Value.ownBlock (.slice Av rest.length cv) ≠ some g := hQ.ne hg (by decide)
  have HNE := Aside0.mk hne
  have HVS : Aside0 (∃ A' m c', Value.slice Av rest.length cv = .slice A' m c') := ⟨⟨_, _, _, rfl⟩⟩
  clear hg hQ hC hBr hBb hh hne
  obtain ⟨L, hL⟩ : ∃ L, L = rest ++ b := ⟨_, rfl⟩
  have hLl : L.length ≤ 1000000000000 := by rw [hL, List.length_append]; exact hl
  have hBL : Bytes L := by rw [hL]; exact HBR.out.append HBB.out
  have HBL := Aside0.mk hBL
  have HL := Aside0.mk hL
  rw [← hL]
  clear hL hBL
  go_enter Try.func24, Try.ntmps24
  go_wp2_with (first | ((with_reducible refine gate_store (t := 3) (p := 12) rfl ?_); refine L_storeo rfl rfl 3 (.tmp 12) (.tmp 10) (by rfl) g 9 (by rfl) (.int .i64 (n + (b.length : Int))) (by rfl) (#[.int .i64 (n + (b.length : Int))]) rfl (by kernel_rfl) (hcells [a0, a1, a2, a3, a4, a5, a6, a7] (.slice Av rest.length cv) n) 79 (HG.out) (by (rw [hcells_size]; exact (by decide : 9 + 1 ≤ 8 + 2))) (one1 rfl) (hcells [a0, a1, a2, a3, a4, a5, a6, a7] (.slice Av rest.length cv) (n + (b.length : Int))) (by rfl) ?_; intro w1 hbw1 huw1; have HBW1 := Aside0.mk hbw1; clear hbw1; have HUW1 := Aside0.mk huw1; clear huw1; have hd1 : w1.cell? ⟨g, 8, none⟩ = some (.slice Av rest.length cv) := (blk_cell HBW1.out 8).trans rfl) | ((with_reducible refine gate_builtin (b := .append) (xs := #[.tmp 17, .tmp 18]) rfl ?_); refine L_append rfl (.tmp 17) (.tmp 18) 24 rfl Try.underlying24 info5 base (.slice Av rest.length cv) rest b A c rfl rfl (HQ.out.kept (HUW1.out.kept (S := fun k => k = g) rfl) (fun k hk hS => HNE.out (hS ▸ hk))) (C_upd HC.out HUW1.out HG.out HVS.out) (by omega) (by rw [HUW1.out.size]; exact hbase) ?_; intro v1 w2 hq2 hg2 hat2; rw [← HL.out] at hq2; obtain ⟨A1, c1, hv1, hle1⟩ := hq2.slice; subst hv1; have HQ2 := Aside0.mk hq2; clear hq2; have HG2 := Aside0.mk hg2; clear hg2; have HAT2 := Aside0.mk hat2; clear hat2) | ((with_reducible refine gate_store (t := 24) (p := 21) rfl ?_); refine L_storeo rfl rfl 24 (.tmp 21) (.tmp 19) (by rfl) g 8 (by rfl) ((.slice A1 L.length c1)) (by rfl) (#[.slice A1 L.length c1]) rfl (by kernel_rfl) (hcells [a0, a1, a2, a3, a4, a5, a6, a7] (.slice Av rest.length cv) (n + (b.length : Int))) 79 ((HG2.out.block g (blk_lt HBW1.out) (Ne.symm HNE.out)).trans HBW1.out) (by (rw [hcells_size]; exact (by decide : 8 + 1 ≤ 8 + 2))) (one1 rfl) (hcells [a0, a1, a2, a3, a4, a5, a6, a7] (.slice A1 L.length c1) (n + (b.length : Int))) (by rfl) ?_; intro w3 hbw3 huw3; have HBW3 := Aside0.mk hbw3; clear hbw3; have HUW3 := Aside0.mk huw3; clear huw3; have hd3 : w3.cell? ⟨g, 8, none⟩ = some (.slice A1 L.length c1) := (blk_cell HBW3.out 8).trans rfl))
  have hinit : Aside0 (∃ (A' : Option Addr) (c' : Nat), w3.heap[g]? = some (.cells (hcells (eat [a0, a1, a2, a3, a4, a5, a6, a7] L 0) (.slice A' (L.drop (64 * 0)).length c') (n + (b.length : Int))) 79 (0, 0)) ∧ QB w3 base (.slice A' (L.drop (64 * 0)).length c') (L.drop (64 * 0)) ∧ Below base w w3 ∧ Kept w w3 (fun k => k = g ∨ (Value.slice Av rest.length cv).ownBlock = some k) ∧ ((Value.slice A' (L.drop (64 * 0)).length c').ownBlock = (Value.slice Av rest.length cv).ownBlock ∨ ∃ k, (Value.slice A' (L.drop (64 * 0)).length c').ownBlock = some k ∧ w.heap.size ≤ k)) := by
    have hk1 := HUW1.out.kept (S := fun k => k = g ∨ (Value.slice Av rest.length cv).ownBlock = some k) (.inl rfl)
    have hk2 : Kept w w2 (fun k => k = g ∨ (Value.slice Av rest.length cv).ownBlock = some k) := hk1.then_ (grown_kept HG2.out) (fun k hk => .inl (.inr hk))
    have hq3 : QB w3 base (.slice A1 L.length c1) L := HQ2.out.kept (HUW3.out.kept (S := fun k => k = g) rfl) (fun k hk hS => by
      have hlt := blk_lt HBW1.out
      rcases HAT2.out with h1 | ⟨b', h1, h2⟩
      · exact HNE.out (by rw [← h1, hk, hS])
      · rw [hk] at h1
        injection h1 with h1
        omega)
    have hb1 := HUW1.out.below (Below.refl base w) hbg
    have hb2 : Below base w w2 := hb1.grown HG2.out (by rw [HUW1.out.size]; exact hbase) (fun k hk => HQ.out.base k hk)
    exact ⟨A1, c1, HBW3.out, hq3, HUW3.out.below hb2 hbg, hk2.then_ (HUW3.out.kept (S := fun k => k = g) rfl) (fun k hk => .inl (.inl hk)), HAT2.out.imp id (fun ⟨b', h1, h2⟩ => ⟨b', h1, by rw [HUW1.out.size] at h2; exact h2⟩)⟩
  clear HBW1 HUW1 hd1 HQ2 HG2 HAT2 HBW3 HUW3 hd3 HG HQ HC HBR HBB HVS hc8 hc9 hcc hl hle1
  go_loopg [] (L.length / 64) (fun m wr => ∃ i, i + m = L.length / 64 ∧ Aside0 (∃ (A' : Option Addr) (c' : Nat), wr.heap[g]? = some (.cells (hcells (eat [a0, a1, a2, a3, a4, a5, a6, a7] L i) (.slice A' (L.drop (64 * i)).length c') (n + (b.length : Int))) 79 (0, 0)) ∧ QB wr base (.slice A' (L.drop (64 * i)).length c') (L.drop (64 * i)) ∧ Below base w wr ∧ Kept w wr (fun k => k = g ∨ (Value.slice Av rest.length cv).ownBlock = some k) ∧ ((Value.slice A' (L.drop (64 * i)).length c').ownBlock = (Value.slice Av rest.length cv).ownBlock ∨ ∃ k, (Value.slice A' (L.drop (64 * i)).length c').ownBlock = some k ∧ w.heap.size ≤ k)))
  case atStart => exact ⟨0, by omega, hinit⟩
  case round =>
    clear hinit
    obtain ⟨i, hi, hR⟩ := hrel
    obtain ⟨A', c', hb, hq, hbe, hk, hat⟩ := hR.out
    obtain ⟨R, hR'⟩ : ∃ R, R = L.drop (64 * i) := ⟨_, rfl⟩
    obtain ⟨x0, x1, x2, x3, x4, x5, x6, x7, hx⟩ := eight (eat_length [a0, a1, a2, a3, a4, a5, a6, a7] L i)
    have hRl : R.length + 64 * i = L.length := by rw [hR', List.length_drop]; omega
    rw [← hR', hx] at hb
    rw [← hR'] at hq hat
    have hcc2 : R.length ≤ c' := by
      obtain ⟨A2, c2, e2, hcc2⟩ := hq.slice
      simp only [Value.slice.injEq] at e2
      omega
    have hc0 : wr.cell? ⟨g, 0, none⟩ = some (.int .u32 x0) := (blk_cell hb 0).trans rfl
    have hc1 : wr.cell? ⟨g, 1, none⟩ = some (.int .u32 x1) := (blk_cell hb 1).trans rfl
    have hc2 : wr.cell? ⟨g, 2, none⟩ = some (.int .u32 x2) := (blk_cell hb 2).trans rfl
    have hc3 : wr.cell? ⟨g, 3, none⟩ = some (.int .u32 x3) := (blk_cell hb 3).trans rfl
    have hc4 : wr.cell? ⟨g, 4, none⟩ = some (.int .u32 x4) := (blk_cell hb 4).trans rfl
    have hc5 : wr.cell? ⟨g, 5, none⟩ = some (.int .u32 x5) := (blk_cell hb 5).trans rfl
    have hc6 : wr.cell? ⟨g, 6, none⟩ = some (.int .u32 x6) := (blk_cell hb 6).trans rfl
    have hc7 : wr.cell? ⟨g, 7, none⟩ = some (.int .u32 x7) := (blk_cell hb 7).trans rfl
    have hc8 : wr.cell? ⟨g, 8, none⟩ = some (.slice A' R.length c') := (blk_cell hb 8).trans rfl
    by_cases hge : 64 ≤ R.length
    · have hq1 : QB wr base (.slice A' 64 c') (R.take 64) := hq.take hge
      have hlt64 : (R.take 64).length = 64 := by rw [List.length_take]; omega
      have hC1 : Kd.C (Kd.int .u8) wr A' (R.take 64).length (R.take 64) := by
        refine QB.C (c := c') (base := base) ?_
        rw [hlt64]
        exact hq1
      have hBt : Bytes (R.take 64) := by
        intro x hx
        refine HBL.out x ?_
        rw [hR'] at hx
        exact List.mem_of_mem_drop (List.mem_of_mem_take hx)
      obtain ⟨y0, y1, y2, y3, y4, y5, y6, y7, hy⟩ := eight (show (cmpB [x0, x1, x2, x3, x4, x5, x6, x7] (R.take 64)).length = 8 by rw [cmpB, comp_length]; rfl)
      have hcall : ∀ W, Kd.C (Kd.int .u8) W A' (R.take 64).length (R.take 64) → Calls Try.prog 14 #[.agg #[.int .u32 x0, .int .u32 x1, .int .u32 x2, .int .u32 x3, .int .u32 x4, .int .u32 x5, .int .u32 x6, .int .u32 x7], .slice A' 64 c'] W fun e w' => e = .returned (.tuple #[.agg #[.int .u32 y0, .int .u32 y1, .int .u32 y2, .int .u32 y3, .int .u32 y4, .int .u32 y5, .int .u32 y6, .int .u32 y7], .int .i64 0]) ∧ Below W.heap.size W w' := by
        intro W hW
        have := RoundsB_calls [x0, x1, x2, x3, x4, x5, x6, x7] rfl A' c' (R.take 64) hBt hlt64 W hW (by omega)
        rw [hlt64, hy] at this
        exact this
      have hf0 : wr.frozen? ⟨g, 0, none⟩ = false := blk_frozen hb 0
      have hf1 : wr.frozen? ⟨g, 1, none⟩ = false := blk_frozen hb 1
      have hf2 : wr.frozen? ⟨g, 2, none⟩ = false := blk_frozen hb 2
      have hf3 : wr.frozen? ⟨g, 3, none⟩ = false := blk_frozen hb 3
      have hf4 : wr.frozen? ⟨g, 4, none⟩ = false := blk_frozen hb 4
      have hf5 : wr.frozen? ⟨g, 5, none⟩ = false := blk_frozen hb 5
      have hf6 : wr.frozen? ⟨g, 6, none⟩ = false := blk_frozen hb 6
      have hf7 : wr.frozen? ⟨g, 7, none⟩ = false := blk_frozen hb 7
      obtain ⟨i0, hi0, _, hsz0, _⟩ := info_parts info5
      have hcut := cut_from (P := Try.prog) 24 5 .i64 Try.underlying24 hi0 1 hsz0 A' R.length c' 64 (by omega) (by omega)
      have hq64 := hq.drop hge
      obtain ⟨A2, hA2⟩ : ∃ A2, A2 = (if c' = 64 then A' else A'.map (·.add 64)) := ⟨_, rfl⟩
      have HA2 := Aside0.mk hA2
      rw [show (64 : Int).toNat = 64 from rfl, show (64 * 1 : Nat) = 64 from rfl, ← hA2] at hcut
      rw [← hA2] at hq64
      have HQ64 := Aside0.mk hq64
      clear hi0 hsz0 hA2 hq64
      have hle64 : (64 : Int) ≤ (c' : Int) := by omega
      have HCALL := Aside0.mk hcall
      have HST := Aside0.mk (And.intro hb (And.intro hq (And.intro hbe (And.intro hk (And.intro hat (And.intro hC1 (And.intro hR' (And.intro hx hy))))))))
      clear hb hq hbe hk hat hC1 hR' hx hy hcall hq1 hlt64 hBt hR
      go_wp2
      go_region_with ((go_at_call 14; refine (HCALL.out _ (by first | with_reducible exact Kd.C_drew HST.out.2.2.2.2.2.1 | with_reducible exact Kd.C_drewN HST.out.2.2.2.2.2.1 _)).mono ?_; rintro e w9 ⟨rfl, hb9⟩; have hS9 := keepS (by exact HST.out.1) hb9; obtain ⟨s0, s1, s2, s3, s4, s5, s6, s7, s8, z0, z1, z2, z3, z4, z5, z6, z7⟩ := hS9; have z8 : w9.frozen? ⟨g, 8, none⟩ = false := keepF (by exact HST.out.1) hb9; have HB9 := Aside0.mk hb9; clear hb9))
      all_goals
        go_wp2
        go_roundg (L.length / 64 - (i + 1))
        case measure => omega
        case rel =>
          obtain ⟨hb, hq, hbe, hk, hat, hC1, hR', hx, hy⟩ := HST.out
          have hB9 := HB9.out
          have e1 : eat [a0, a1, a2, a3, a4, a5, a6, a7] L (i + 1) = [y0, y1, y2, y3, y4, y5, y6, y7] := by rw [eat, hx, ← hR', hy]
          have e2 : L.drop (64 * (i + 1)) = R.drop 64 := by rw [hR', List.drop_drop]; congr 1
          have e3 : (R.drop 64).length = R.length - 64 := List.length_drop
          have h9 : w9.heap[g]? = some (.cells (hcells [x0, x1, x2, x3, x4, x5, x6, x7] (.slice A' R.length c') (n + (b.length : Int))) 79 (0, 0)) := (hB9.block g (blk_lt (w := wr.drew) hb)).trans hb
          have hne9 : ∀ k, (Value.slice A2 (R.length - 64) (c' - 64)).ownBlock = some k → k ≠ g := fun k hk e => HQ64.out.ne hb (by decide) (by rw [hk, e])
          have hU : Upd w9 _ g := ((((((((((Upd.refl w9 g).setCell 0 (.int .u32 y0)).setCell 1 (.int .u32 y1)).setCell 2 (.int .u32 y2)).setCell 3 (.int .u32 y3)).setCell 4 (.int .u32 y4)).setCell 5 (.int .u32 y5)).setCell 6 (.int .u32 y6)).setCell 7 (.int .u32 y7)).setCell 8 (.slice A2 (R.length - 64) (c' - 64)))
          have hbs := hbe.size
          have hb9' : Below base w w9 := (below_drew hbe).trans (hB9.mono (by show base ≤ wr.heap.size; omega))
          refine ⟨i + 1, by omega, ⟨A2, c' - 64, ?_, ?_, ?_, ?_, ?_⟩⟩
          · rw [e1, e2, e3]
            exact hset9 h9 _
          · rw [e2, e3]
            have := HQ64.out
            exact q_move this (fun k hk => (hU.block k (hne9 k hk)).trans (hB9.block k (QB.lt this k hk)))
          · exact hU.below hb9' hbg
          · exact (hk.drew.below hB9).then_ (hU.kept (S := fun k => k = g) rfl) (fun k hk => .inl (.inl hk))
          · rw [e2, e3]
            have e5 : (Value.slice A2 (R.length - 64) (c' - 64)).ownBlock = (Value.slice A' R.length c').ownBlock := by
              rw [HA2.out, own_slice_block, own_slice_block]
              split
              · rfl
              · cases A' <;> simp [add_block]
            rw [e5]
            exact hat
    · go_wp2
      first | go_end0 | (refine bodyPost_ret (results_none rfl _ _ _) rfl ?_)
      have e1 : L.length / 64 = i := by omega
      rw [e1]
      rw [hR'] at hat hq hb
      rw [← hx] at hb
      exact ⟨_, rfl, hb, hq, hbe, hk, hat⟩
end Go.Proofs.Ythpkbamhpmgffaa.Sha
