/- The document's disk in memory; one write laid. No condition. -/
import Derived.Test.YtdbfclfglpbpmaaDskK
namespace Go.Proofs.Ytdbfclfglpbpmaa.Dsk
open Go.AnyFacts Go.Proofs.Ytdbfclfglpbpmaa.Sha Go.RowKit Go.Proofs.YtdbfclfglpbpmaaW.Hand Go.Proofs.YtdbfclfglpbpmaaW.PrintWords Go.Proofs.YtdbfclfglpbpmaaW.PrintLast Go.Proofs.YtdbfclfglpbpmaaW.PrintMore Go.Proofs.Ytdbfclfglpbpmaa.PF21 Go.Proofs.Ytdbfclfglpbpmaa.Base Go.Proofs.Ytdbfclfglpbpmaa.LF21
attribute [local go_sem] max2_int min2_int max_two min_two max_three min_three max_four min_four
set_option linter.unusedVariables false
set_option linter.unusedSimpArgs false

/-- The document's state, as it lies in memory: three rows; P: where they lie. -/
structure RSt (P : Nat → Prop) (v0 v1 v2 : Value) (bl : List (List Int)) (ws : List S183) (bad : List Int) (w : World) : Prop where
  b : Kd.V (Kd.slice 5 (Kd.int .u8)) 22 w 0 P v0 bl
  q : Kd.V k183 183 w 0 P v1 ws
  d : Kd.V (Kd.int .i64) 3 w 0 P v2 bad
def stC (v0 v1 v2 : Value) (down cut : Bool) (left : Int) : Array Value := #[v0, v1, v2, .bool down, .bool cut, .int .i64 left]
section
variable {P P' : Nat → Prop} {v0 v1 v2 : Value} {bl : List (List Int)} {ws : List S183} {bad : List Int} {w w1 : World}
theorem RSt.below (s : RSt P v0 v1 v2 bl ws bad w) (hb : Below w.heap.size w w1) : RSt P v0 v1 v2 bl ws bad w1 := ⟨Kd.V_below s.b hb, Kd.V_below s.q hb, Kd.V_below s.d hb⟩
theorem RSt.mono (s : RSt P v0 v1 v2 bl ws bad w) (h : ∀ k, P k → P' k) : RSt P' v0 v1 v2 bl ws bad w := ⟨Kd.V_mono s.b h, Kd.V_mono s.q h, Kd.V_mono s.d h⟩
theorem RSt.bound (s : RSt P v0 v1 v2 bl ws bad w) : RSt (fun k => P k ∧ k < w.heap.size) v0 v1 v2 bl ws bad w := ⟨Kd.V_bound s.b, Kd.V_bound s.q, Kd.V_bound s.d⟩
theorem RSt.kept {S : Nat → Prop} (s : RSt P v0 v1 v2 bl ws bad w) (hk : Kept w w1 S) (h : ∀ k, P k → ¬ S k) : RSt P v0 v1 v2 bl ws bad w1 := ⟨Kd.V_kept s.b hk h, Kd.V_kept s.q hk h, Kd.V_kept s.d hk h⟩
theorem RSt.step (s : RSt P v0 v1 v2 bl ws bad w) (h : ∀ k, P k → k < w.heap.size → w1.heap[k]? = w.heap[k]?) : RSt P v0 v1 v2 bl ws bad w1 := ⟨Kd.V_step s.b h, Kd.V_step s.q h, Kd.V_step s.d h⟩
end
/-- Six cells of a block are written. -/
@[reducible] def set6 (w : World) (g : Nat) (a b c d e f : Value) : World := (((((w.setCell ⟨g, 0, none⟩ a).setCell ⟨g, 1, none⟩ b).setCell ⟨g, 2, none⟩ c).setCell ⟨g, 3, none⟩ d).setCell ⟨g, 4, none⟩ e).setCell ⟨g, 5, none⟩ f
theorem set6_blk {w : World} {g : Nat} {c : Array Value} {t : TypeId} (h : w.heap[g]? = some (.cells c t (0, 0))) (hs : c.size = 6) (v0 v1 v2 v3 v4 v5 : Value) : (set6 w g v0 v1 v2 v3 v4 v5).heap[g]? = some (.cells #[v0, v1, v2, v3, v4, v5] t (0, 0)) := by
  obtain ⟨l⟩ := c
  match l, hs, h with
  | [a0, a1, a2, a3, a4, a5], _, h => exact (blk_set (blk_set (blk_set (blk_set (blk_set (blk_set h 0 v0) 1 v1) 2 v2) 3 v3) 4 v4) 5 v5).trans rfl
theorem set6_far {w : World} {g k : Nat} (h : k ≠ g) (v0 v1 v2 v3 v4 v5 : Value) : (set6 w g v0 v1 v2 v3 v4 v5).heap[k]? = w.heap[k]? := by
  unfold set6
  rw [Below.heap_setCell _ _ _ _ h, Below.heap_setCell _ _ _ _ h, Below.heap_setCell _ _ _ _ h, Below.heap_setCell _ _ _ _ h, Below.heap_setCell _ _ _ _ h, Below.heap_setCell _ _ _ _ h]
theorem set6_below {B : Nat} {w0 w : World} {g : Nat} (h : Below B w0 w) (hg : B ≤ g) (v0 v1 v2 v3 v4 v5 : Value) : Below B w0 (set6 w g v0 v1 v2 v3 v4 v5) := by
  unfold set6
  exact (((((h.setCell (p := ⟨g, 0, none⟩) hg _).setCell (p := ⟨g, 1, none⟩) hg _).setCell (p := ⟨g, 2, none⟩) hg _).setCell (p := ⟨g, 3, none⟩) hg _).setCell (p := ⟨g, 4, none⟩) hg _).setCell (p := ⟨g, 5, none⟩) hg _
theorem below_any_set {B : Nat} {w0 w : World} (hb : Below B w0 w) {g h : Nat} (hg : B ≤ g) (hh : B ≤ h) (u v0 v1 v2 v3 v4 v5 : Value) : Below B w0 (set6 (w.setCell ⟨g, 0, none⟩ u) h v0 v1 v2 v3 v4 v5) := set6_below (hb.setCell (p := ⟨g, 0, none⟩) hg u) hh _ _ _ _ _ _
theorem below_any {w w1 : World} {B : Nat} (h : Below B w w1) (hB : B ≤ w.heap.size) {k : Nat} (hk : k < B) : w1.heap[k]? = w.heap[k]? := h.block k hk
def Dm105_2.T : Bool × List (List Nat × List Nat) := (true, [([], []), ([], []), ([1], [1]), ([], []), ([], []), ([4], [4]), ([], []), ([5, 6], [5, 6]), ([3, 7], [3, 7]), ([], []), ([9], [9]), ([], []), ([11], [11]), ([10, 12], [10, 12]), ([13], [13]), ([], []), ([14, 15], [14, 15]), ([8, 16, 8], [8, 16]), ([0, 2, 0, 1, 2, 3, 4, 5, 6, 7, 8, 9, 10, 11, 12, 13, 14, 15, 16, 17], [0, 2]), ([18, 17, 17, 0, 1, 2, 3, 4, 5, 6, 7, 8, 9, 10, 11, 12, 13, 14, 15, 16, 17], [17, 18])])
def Dm105_2.B : List Nat := [0, 0, 2, 0, 0, 16, 0, 112, 248, 0, 512, 0, 2048, 7680, 15872, 0, 65024, 131064, 262143, 524287]
theorem Dm105_2.tab : rtab .any (opsOf Try.f105 2) = Dm105_2.T := by kernel_rfl
theorem Dm105_2.bits : waitsOk Dm105_2.T.2 Dm105_2.B = true := by kernel_rfl
set_option maxHeartbeats 8000000 in
set_option maxRecDepth 100000 in
theorem lay_calls {P : Nat → Prop} {v0 v1 v2 : Value} {bl : List (List Int)} {ws : List S183} {bad : List Int} {down cut : Bool} {left : Int} {w : World} (s : RSt P v0 v1 v2 bl ws bad w) (f : Int) (Ax : Option Addr) (cx : Nat) (xb yb : List Int) (hx : Kd.C (Kd.int .u8) w Ax 256 xb) (hxc : 256 ≤ cx) (kk : Int) (hk0 : 0 ≤ kk) (hk : kk ≤ 256) (hf0 : 0 ≤ f) (hf1 : f < (bl.length : Int)) (hyb : bl[f.toNat]? = some yb) (hyl : yb.length = 256) (hblm : bl.length ≤ 1000) :
    Calls Try.prog 105 #[.agg (stC v0 v1 v2 down cut left), .agg #[.int .i64 f, .slice Ax 256 cx], .int .i64 kk] w fun e w' => ∃ v0', e = .returned (.agg (stC v0' v1 v2 down cut left)) ∧ RSt (fun k => P k ∨ w.heap.size ≤ k) v0' v1 v2 (bl.set f.toNat (xb.take kk.toNat ++ yb.drop kk.toNat)) ws bad w' ∧ Below w.heap.size w w' := by
  have hfl : f.toNat < bl.length := by omega
  obtain ⟨A0, c0, rfl⟩ := Kd.V_slice s.b
  obtain ⟨A1, c1, rfl⟩ := Kd.V_slice s.q
  obtain ⟨A2, c2, rfl⟩ := Kd.V_slice s.d
  obtain ⟨_, hc0, hF0⟩ := Kd.V_at s.b
  have hC0 := Kd.F_now hF0
  obtain ⟨ad, rfl, _⟩ := hC0.2.2 (by omega)
  obtain ⟨cs0, hcl0, hFK0, hcc0⟩ := Kd.V_get s.b ([] : List Int) f hf0 hf1
  obtain ⟨Ai, ci, rfl, hci, hFi⟩ := Kd.FK_slice_open hFK0
  have eyb : bl.getD f.toNat [] = yb := by rw [List.getD_eq_getElem?_getD, hyb]; rfl
  rw [eyb, hyl] at hci hFi
  have hcell := hcc0 0 _ rfl
  rw [eyb, hyl, show (Kd.slice 5 (Kd.int .u8)).sz = 1 from rfl, Nat.mul_one, Nat.add_zero] at hcell
  have HS := Aside0.mk s
  have HF0 := Aside0.mk (Kd.F_bound hF0)
  have HBLM := Aside0.mk hblm
  have HX := Aside0.mk hx
  have HXL := Aside0.mk (show xb.length = 256 from hx.1)
  have HYL := Aside0.mk hyl
  have HKK := Aside0.mk (show kk.toNat ≤ 256 by omega)
  obtain ⟨i0, hi0, hs0⟩ := info5p
  have hcut1 := fun kh_ => cut_to (P := Try.prog) 22 5 kh_ Try.underlying22 hi0 Ax 256 cx kk hk0 hk hxc
  have hcut2 := fun kh_ => cut_from (P := Try.prog) 22 5 kh_ Try.underlying22 hi0 1 hs0 Ai 256 ci kk hk0 hk
  have hCY := fun (W : World) (hb : Below w.heap.size w W) => Kd.C_drop (k := Kd.int .u8) (c := ci) (m := kk.toNat) (w := W) (A := Ai) (xs := yb) (by rw [hyl]; exact Kd.F_now (Kd.F_below hFi hb)) (by omega) (by omega)
  rw [show (Kd.int .u8).sz = 1 from rfl] at hCY
  obtain ⟨Ay, hAy⟩ : ∃ Ay, Ay = (if ci = kk.toNat then Ai else Ai.map (·.add (kk.toNat * 1))) := ⟨_, rfl⟩
  rw [← hAy] at hCY hcut2
  have hyd : (yb.drop kk.toNat).length = 256 - kk.toNat := by rw [List.length_drop, hyl]
  have HCY0 := Aside0.mk (fun (W : World) (hb : Below w.heap.size w W) => (show Kd.C (Kd.int .u8) W Ay (256 - kk.toNat) (yb.drop kk.toNat) by have h := hCY W hb; rw [hyd] at h; exact h))
  have HCX0 := Aside0.mk (fun (W : World) (hb : Below w.heap.size w W) => (show Kd.C (Kd.int .u8) W Ax kk.toNat (xb.take kk.toNat) from C_takeN (Kd.C_below hx hb) (by omega)))
  have HCE := Aside0.mk hcell
  have p2' : (0 : Int) ≤ f := hf0
  have q2' : f < (bl.length : Int) := hf1
  have p2 := eq_true hf0
  have q2 := eq_true hf1
  have HFL := Aside0.mk hfl
  have HYB := Aside0.mk eyb
  clear hx hxc hk0 hk hf0 hf1 hyb hyl hblm hfl hc0 hF0 hC0 hcl0 hFK0 hcc0 hci hFi hcell hi0 hs0 hCY hAy hyd eyb s
  go_enter Try.func105, Try.ntmps105
  go_wp2_with (first
    | ((with_reducible refine gate_dst (N := 3) rfl ?_); refine L_box rfl 102 (.tmp 0) rfl (.agg #[.slice (some ad) bl.length c0, .slice A1 ws.length c1, .slice A2 bad.length c2, .bool down, .bool cut, .int .i64 left]) rfl ?_; intro g3 w1 hb hg hs hl; have HKg3 := Aside0.mk hb; have HGg3 := Aside0.mk hg; have HLg3 := Aside0.mk hl; clear hb hg hs hl)
    | ((with_reducible refine gate_dst (N := 4) rfl ?_); refine L_box rfl 183 (.tmp 1) rfl (.agg #[.int .i64 f, .slice Ax 256 cx]) rfl ?_; intro g4 w2 hb hg hs hl; have HKg4 := Aside0.mk hb; have HGg4 := Aside0.mk hg; have HLg4 := Aside0.mk hl; clear hb hg hs hl)
    | ((with_reducible refine gate_dst (N := 6) rfl ?_); refine L_alloc rfl 102 rfl (.agg #[.slice none 0 0, .slice none 0 0, .slice none 0 0, .bool false, .bool false, .int .i64 0]) 6 (by kernel_rfl) ?_; intro g6 w3 hb hg hs hl; have HKg6 := Aside0.mk hb; have HGg6 := Aside0.mk hg; have HLg6 := Aside0.mk hl; clear hb hg hs hl; have HB3 := Aside0.mk (below_step (below_step HLg3.out HLg4.out) HLg6.out); have HK33 := Aside0.mk (blk_below (blk_below HKg3.out HLg4.out) HLg6.out); have HK43 := Aside0.mk (blk_below HKg4.out HLg6.out); have HGS := Aside0.mk (show w.heap.size ≤ g3 ∧ w.heap.size ≤ g4 ∧ w.heap.size ≤ g6 ∧ g3 < g4 ∧ g4 < g6 ∧ g6 < w3.heap.size from by have h1 := HGg3.out; have h2 := HGg4.out; have h3 := HGg6.out; have h4 := blk_lt HKg3.out; have h5 := blk_lt HKg4.out; have h6 := blk_lt HKg6.out; omega))
    | ((with_reducible refine gate_dst (N := 8) rfl ?_); refine Kd.N_lit (Kd.slice 5 (Kd.int .u8)) (w0 := w) w.heap.size 22 rfl (N' := 8) rfl (xs := ([] : List (List Int))) (inner := []) (ok := (fun k => (P k ∧ k < w.heap.size) ∨ w3.heap.size ≤ k)) (okp := fun _ => False) ?hr (Reps.none _ _) (fun _ hk => hk.elim) (.inr (Nat.le_refl _)) HB3.out HB3.out.size (by simp) ?_; (case hr => first | (go_simp; done) | (go_simp; rfl)); intro v4 w4 hn4 hb4 hg4 hown4; have HN4 := Aside0.mk hn4; have HB4 := Aside0.mk hb4; have HO4 := Aside0.mk hown4; have HB34 := Aside0.mk (show Below w3.heap.size w3 w4 from ⟨hg4.os, hg4.tape, hg4.output, hg4.size, fun k hk => hg4.block k hk (by simp)⟩); have hx30 : w4.cell? ⟨g3, 0, none⟩ = some (.slice (some ad) bl.length c0) := (blk_cell (blk_below HK33.out HB34.out) 0).trans rfl; clear hn4 hb4 hg4 hown4)
    | ((with_reducible refine gate_builtin (b := .append) (xs := #[.tmp 8, .tmp 10]) rfl ?_); at_builtin; refine Kd.N_append_rows (Kd.slice 5 (Kd.int .u8)) (w0 := w) w.heap.size rfl (.tmp 8) (.tmp 10) 99 22 (.slice none 0 0) 24 rfl Try.underlying99 info22 rfl (by decide) (by omega) v4 [] bl (some ad) bl.length c0 (fun k => (P k ∧ k < w.heap.size) ∨ w3.heap.size ≤ k) (fun k => P k ∧ k < w.heap.size) rfl rfl HN4.out (Kd.F_below HF0.out HB4.out) (fun k hk => ⟨.inl hk, fun e => by obtain ⟨b, hb, hle⟩ := HO4.out; rw [hb] at e; have := Option.some.inj e; have := hk.2; have := HB3.out.size; omega⟩) (fun k hk => .inr (Nat.le_trans HB34.out.size hk)) HB4.out HB4.out.size (by have := HBLM.out; simp; omega) ?_; intro v5 w5 hn5 hb5 hg5 hat5; rw [List.nil_append] at hn5; have HN5a := Aside0.mk hn5; have HB5 := Aside0.mk hb5; have HB35 := Aside0.mk (show Below w3.heap.size w3 w5 from pw_below_grown HB34.out v4.ownBlock HB34.out.size hg5 (fun k e => by obtain ⟨b, hb, hle⟩ := HO4.out; rw [hb] at e; have := Option.some.inj e; omega)); have HO5 := Aside0.mk (show ∃ b, v5.ownBlock = some b ∧ w3.heap.size ≤ b from by obtain ⟨b, hb, hle⟩ := HO4.out; rcases hat5 with h | ⟨b2, h, h2⟩; exact ⟨b, h.trans hb, hle⟩; exact ⟨b2, h, Nat.le_trans HB34.out.size h2⟩); clear hn5 hb5 hg5 hat5))
  obtain ⟨gt, ct, ev5⟩ : ∃ gt ct, v5 = .slice (some ⟨gt, 0, none⟩) bl.length ct := by
    obtain ⟨g', c', e, _⟩ := Kd.N_form HN5a.out (by have := HFL.out; omega)
    exact ⟨g', c', e⟩
  subst ev5
  have HGT := Aside0.mk (show w3.heap.size ≤ gt ∧ gt < w5.heap.size from ⟨by obtain ⟨b, hb, hle⟩ := HO5.out; have e : gt = b := Option.some.inj hb; omega, Kd.N_lt HN5a.out gt rfl⟩)
  have HWR := Aside0.mk (show Below w5.heap.size w5 w5.drew from below_drew (Below.refl _ _))
  have HN5 := Aside0.mk (show Kd.N (Kd.slice 5 (Kd.int .u8)) 22 w5.drew w.heap.size (fun k => ((P k ∧ k < w.heap.size) ∨ w3.heap.size ≤ k) ∧ k < w5.heap.size) (.slice (some ⟨gt, 0, none⟩) bl.length ct) bl from Kd.N_below (Kd.N_bound HN5a.out) HWR.out)
  have HBR := Aside0.mk (below_step HB5.out HWR.out)
  have HCX := Aside0.mk (HCX0.out w5.drew HBR.out)
  have HCY := Aside0.mk (HCY0.out w5.drew HBR.out)
  have HB3R := Aside0.mk (below_step HB35.out HWR.out)
  have HG5 := Aside0.mk (fun (W : World) (hb : Below w5.drew.heap.size w5.drew W) => (show W.cell? ⟨g3, 0, none⟩ = some (.slice (some ad) bl.length c0) ∧ W.cell? ⟨g4, 0, none⟩ = some (.int .i64 f) ∧ W.cell? ⟨g4, 1, none⟩ = some (.slice Ax 256 cx) ∧ W.cell? (ad.add f.toNat) = some (.slice Ai 256 ci) from ⟨(blk_cell (blk_below HK33.out (below_step HB3R.out hb)) 0).trans rfl, (blk_cell (blk_below HK43.out (below_step HB3R.out hb)) 0).trans rfl, (blk_cell (blk_below HK43.out (below_step HB3R.out hb)) 1).trans rfl, cell_below (below_step HBR.out hb) HCE.out⟩))
  obtain ⟨ctc, hctl, hFKt, hcct, _⟩ := Kd.N_elem HN5.out ([] : List Int) f p2' q2'
  obtain ⟨Ai2, ci2, rfl, hci2, _⟩ := Kd.FK_slice_open hFKt
  have ht5 := hcct 0 _ rfl
  rw [HYB.out, HYL.out, show (Kd.slice 5 (Kd.int .u8)).sz = 1 from rfl, Nat.mul_one, Nat.add_zero] at ht5
  have HT5 := Aside0.mk (fun (W : World) (hb : Below w5.drew.heap.size w5.drew W) => (show W.cell? ⟨gt, f.toNat, none⟩ = some (.slice Ai2 256 ci2) from cell_below hb ht5))
  clear hctl hFKt hcct hci2 ht5 hx30 HN5a HN4 HB4 HO4 HO5 HCX0 HCY0 HLg3 HLg4 HLg6
  refine start_ (n := 20) (S := fun w' => w'.cell? ⟨g3, 0, none⟩ = some (.slice (some ad) bl.length c0) ∧ w'.cell? ⟨g4, 0, none⟩ = some (.int .i64 f) ∧ w'.cell? ⟨g4, 1, none⟩ = some (.slice Ax 256 cx) ∧ w'.cell? (ad.add f.toNat) = some (.slice Ai 256 ci)) (ds := [19]) #[false, false, false, false, false, false, false, false, false, false, false, false, false, false, false, false, false, false, false, false] (by kernel_rfl) rfl rfl ⟨(HG5.out w5.drew (Below.refl _ _)).1, (HG5.out w5.drew (Below.refl _ _)).2.1, (HG5.out w5.drew (Below.refl _ _)).2.2.1, (HG5.out w5.drew (Below.refl _ _)).2.2.2⟩ (fun hHeld => ?_); refine with_tabW Dm105_2.tab Dm105_2.bits (fun HT_ HW_ => ?_)
  refine pure_ (i := 0) (N := some 12) (v := ?_) (a' := ?_) #[true, false, false, false, false, false, false, false, false, false, false, false, false, false, false, false, false, false, false, false] rfl rfl (any_of HT_.out (by kernel_rfl)) (fun _ _ _ h => h) (Or.inl ⟨by rfl, ?_⟩) ?_ ?_
  rotate_left
  · intro w'
    go_simp
    with_reducible rfl
  rotate_left
  · simp only [Act.put, List.setIfInBounds_toArray, List.set_cons_zero, List.set_cons_succ, i64_w, i32_w]
    rfl
  refine pure_ (i := 1) (N := some 13) (v := ?_) (a' := ?_) #[true, true, false, false, false, false, false, false, false, false, false, false, false, false, false, false, false, false, false, false] rfl rfl (any_of HT_.out (by kernel_rfl)) (fun _ _ _ h => h) (Or.inl ⟨by rfl, ?_⟩) ?_ ?_
  rotate_left
  · intro w'
    go_simp
    with_reducible rfl
  rotate_left
  · simp only [Act.put, List.setIfInBounds_toArray, List.set_cons_zero, List.set_cons_succ, i64_w, i32_w]
    rfl
  refine take_ (i := 2) (N := some 14) (v := ?_) (a' := ?_) #[true, true, true, false, false, false, false, false, false, false, false, false, false, false, false, false, false, false, false, false] rfl rfl (take_ofW HT_.out HW_.out (by kernel_rfl)) (fun _ _ _ h => h) (Or.inl ⟨by rfl, ?_⟩) hHeld ?_ ?_
  rotate_left
  · rintro w' ⟨s0, s1, s2, s3⟩
    go_simp
    with_reducible rfl
  rotate_left
  · simp only [Act.put, List.setIfInBounds_toArray, List.set_cons_zero, List.set_cons_succ, i64_w, i32_w]
    rfl
  refine pure_ (i := 4) (N := some 16) (v := ?_) (a' := ?_) #[true, true, true, false, true, false, false, false, false, false, false, false, false, false, false, false, false, false, false, false] rfl rfl (any_of HT_.out (by kernel_rfl)) (fun _ _ _ h => h) (Or.inl ⟨by rfl, ?_⟩) ?_ ?_
  rotate_left
  · intro w'
    go_simp
    with_reducible rfl
  rotate_left
  · simp only [Act.put, List.setIfInBounds_toArray, List.set_cons_zero, List.set_cons_succ, i64_w, i32_w]
    rfl
  refine take_ (i := 5) (N := some 17) (v := ?_) (a' := ?_) #[true, true, true, false, true, true, false, false, false, false, false, false, false, false, false, false, false, false, false, false] rfl rfl (take_ofW HT_.out HW_.out (by kernel_rfl)) (fun _ _ _ h => h) (Or.inl ⟨by rfl, ?_⟩) hHeld ?_ ?_
  rotate_left
  · rintro w' ⟨s0, s1, s2, s3⟩
    go_simp
    with_reducible rfl
  rotate_left
  · simp only [Act.put, List.setIfInBounds_toArray, List.set_cons_zero, List.set_cons_succ, i64_w, i32_w]
    rfl
  refine pure_ (i := 6) (N := some 18) (v := ?_) (a' := ?_) #[true, true, true, false, true, true, true, false, false, false, false, false, false, false, false, false, false, false, false, false] rfl rfl (any_of HT_.out (by kernel_rfl)) (fun _ _ _ h => h) (Or.inl ⟨by rfl, ?_⟩) ?_ ?_
  rotate_left
  · intro w'
    go_simp
    with_reducible rfl
  rotate_left
  · simp only [Act.put, List.setIfInBounds_toArray, List.set_cons_zero, List.set_cons_succ, i64_w, i32_w]
    rfl
  refine pure_ (i := 7) (N := some 19) (v := ?_) (a' := ?_) #[true, true, true, false, true, true, true, true, false, false, false, false, false, false, false, false, false, false, false, false] rfl rfl (any_of HT_.out (by kernel_rfl)) (fun _ _ _ h => h) (Or.inl ⟨by rfl, ?_⟩) ?_ ?_
  rotate_left
  · intro w'
    go_simp
    with_reducible rfl
  rotate_left
  · simp only [Act.put, List.setIfInBounds_toArray, List.set_cons_zero, List.set_cons_succ, i64_w, i32_w]
    rfl
  refine pure_ (i := 9) (N := some 21) (v := ?_) (a' := ?_) #[true, true, true, false, true, true, true, true, false, true, false, false, false, false, false, false, false, false, false, false] rfl rfl (any_of HT_.out (by kernel_rfl)) (fun _ _ _ h => h) (Or.inl ⟨by rfl, ?_⟩) ?_ ?_
  rotate_left
  · intro w'
    go_simp
    with_reducible rfl
  rotate_left
  · simp only [Act.put, List.setIfInBounds_toArray, List.set_cons_zero, List.set_cons_succ, i64_w, i32_w]
    rfl
  refine take_ (i := 10) (N := some 22) (v := ?_) (a' := ?_) #[true, true, true, false, true, true, true, true, false, true, true, false, false, false, false, false, false, false, false, false] rfl rfl (take_ofW HT_.out HW_.out (by kernel_rfl)) (fun _ _ _ h => h) (Or.inl ⟨by rfl, ?_⟩) hHeld ?_ ?_
  rotate_left
  · rintro w' ⟨s0, s1, s2, s3⟩
    go_simp
    with_reducible rfl
  rotate_left
  · simp only [Act.put, List.setIfInBounds_toArray, List.set_cons_zero, List.set_cons_succ, i64_w, i32_w]
    rfl
  refine pure_ (i := 11) (N := some 23) (v := ?_) (a' := ?_) #[true, true, true, false, true, true, true, true, false, true, true, true, false, false, false, false, false, false, false, false] rfl rfl (any_of HT_.out (by kernel_rfl)) (fun _ _ _ h => h) (Or.inl ⟨by rfl, ?_⟩) ?_ ?_
  rotate_left
  · intro w'
    go_simp
    with_reducible rfl
  rotate_left
  · simp only [Act.put, List.setIfInBounds_toArray, List.set_cons_zero, List.set_cons_succ, i64_w, i32_w]
    rfl
  refine take_ (i := 12) (N := some 24) (v := ?_) (a' := ?_) #[true, true, true, false, true, true, true, true, false, true, true, true, true, false, false, false, false, false, false, false] rfl rfl (take_ofW HT_.out HW_.out (by kernel_rfl)) (fun _ _ _ h => h) (Or.inl ⟨by rfl, ?_⟩) hHeld ?_ ?_
  rotate_left
  · rintro w' ⟨s0, s1, s2, s3⟩
    go_simp
    with_reducible rfl
  rotate_left
  · simp only [Act.put, List.setIfInBounds_toArray, List.set_cons_zero, List.set_cons_succ, i64_w, i32_w]
    rfl
  refine pure_ (i := 13) (N := some 25) (v := ?_) (a' := ?_) #[true, true, true, false, true, true, true, true, false, true, true, true, true, true, false, false, false, false, false, false] rfl rfl (any_of HT_.out (by kernel_rfl)) (fun _ _ _ h => h) (Or.inl ⟨by rfl, ?_⟩) ?_ ?_
  rotate_left
  · intro w'
    go_simp
    with_reducible rfl
  rotate_left
  · simp only [Act.put, List.setIfInBounds_toArray, List.set_cons_zero, List.set_cons_succ, i64_w, i32_w]
    rfl
  refine take_ (i := 14) (N := some 26) (v := ?_) (a' := ?_) #[true, true, true, false, true, true, true, true, false, true, true, true, true, true, true, false, false, false, false, false] rfl rfl (take_ofW HT_.out HW_.out (by kernel_rfl)) (fun _ _ _ h => h) (Or.inl ⟨by rfl, ?_⟩) hHeld ?_ ?_
  rotate_left
  · rintro w' ⟨s0, s1, s2, s3⟩
    go_simp
    with_reducible rfl
  rotate_left
  · simp only [Act.put, List.setIfInBounds_toArray, List.set_cons_zero, List.set_cons_succ, i64_w, i32_w]
    rfl
  refine pure_ (i := 15) (N := some 27) (v := ?_) (a' := ?_) #[true, true, true, false, true, true, true, true, false, true, true, true, true, true, true, true, false, false, false, false] rfl rfl (any_of HT_.out (by kernel_rfl)) (fun _ _ _ h => h) (Or.inl ⟨by rfl, ?_⟩) ?_ ?_
  rotate_left
  · intro w'
    go_simp
    with_reducible rfl
  rotate_left
  · simp only [Act.put, List.setIfInBounds_toArray, List.set_cons_zero, List.set_cons_succ, i64_w, i32_w]
    rfl
  refine pure_ (i := 16) (N := some 28) (v := ?_) (a' := ?_) #[true, true, true, false, true, true, true, true, false, true, true, true, true, true, true, true, true, false, false, false] rfl rfl (any_of HT_.out (by kernel_rfl)) (fun _ _ _ h => h) (Or.inl ⟨by rfl, ?_⟩) ?_ ?_
  rotate_left
  · intro w'
    go_simp
    with_reducible rfl
  rotate_left
  · simp only [Act.put, List.setIfInBounds_toArray, List.set_cons_zero, List.set_cons_succ, i64_w, i32_w]
    rfl
  refine one_ (i := 3) (N := some 15) #[true, true, true, true, true, true, true, true, false, true, true, true, true, true, true, true, true, false, false, false] rfl rfl (one_of HT_.out (by kernel_rfl)) (by decide) (fun Kq hKq => ?_)
  refine Kd.R_lit_step (Kd.int .u8) (w0 := w5.drew) w5.drew.heap.size 5 (by rfl) (N := 15) rfl (xs := ([] : List Int)) (inner := []) (ok := fun _ => True) (okp := fun _ => True) ?hr (Reps.none _ _) (fun _ hk => hk) trivial (Below.refl _ _) (Nat.le_refl _) (by simp) ?_
  (case hr => first | (go_simp; done) | (go_simp; rfl))
  intro v6 w6 hr6 hb6 hg6 hn6
  have HR6 := Aside0.mk hr6
  have HB6 := Aside0.mk hb6
  clear hr6 hb6 hg6 hn6
  refine hKq.out _ _ (HG5.out w6 HB6.out) (fun hHeld => ?_)
  clear hKq Kq
  refine norm_ (a' := ?_) ?_ ?_
  rotate_left
  · show Act.put _ (some 15) _ = _
    simp only [Act.put, List.setIfInBounds_toArray, List.set_cons_zero, List.set_cons_succ, i64_w, i32_w]
    rfl
  refine one_ (i := 8) (N := some 20) #[true, true, true, true, true, true, true, true, true, true, true, true, true, true, true, true, true, false, false, false] rfl rfl (one_of HT_.out (by kernel_rfl)) (by decide) (fun Kq hKq => ?_)
  refine Kd.R_append_rows_step (Kd.int .u8) (w0 := w5.drew) w5.drew.heap.size (by rfl) (.tmp 15) (.tmp 19) 22 5 (.int .u8 0) 1 rfl Try.underlying22 info5 rfl (by decide) (by omega) v6 [] (xb.take kk.toNat) Ax kk.toNat cx (fun _ => True) (fun _ => False) rfl rfl HR6.out (Kd.C_below HCX.out HB6.out) (fun _ _ h => h) (fun _ h => h.elim) (fun _ _ => trivial) HB6.out HB6.out.size (by have := HKK.out; simp; omega) ?_
  intro v7 w7 hr7 hb7 hg7 hat7
  rw [List.nil_append] at hr7
  have HR7 := Aside0.mk hr7
  have HB7 := Aside0.mk hb7
  clear hr7 hb7 hg7 hat7
  refine hKq.out _ _ (HG5.out w7 HB7.out) (fun hHeld => ?_)
  clear hKq Kq
  refine norm_ (a' := ?_) ?_ ?_
  rotate_left
  · show Act.put _ (some 20) _ = _
    simp only [Act.put, List.setIfInBounds_toArray, List.set_cons_zero, List.set_cons_succ, i64_w, i32_w]
    rfl
  refine one_ (i := 17) (N := some 29) #[true, true, true, true, true, true, true, true, true, true, true, true, true, true, true, true, true, true, false, false] rfl rfl (one_of HT_.out (by kernel_rfl)) (by decide) (fun Kq hKq => ?_)
  refine Kd.R_append_rows_step (Kd.int .u8) (w0 := w5.drew) w5.drew.heap.size (by rfl) (.tmp 20) (.tmp 28) 22 5 (.int .u8 0) 1 rfl Try.underlying22 info5 rfl (by decide) (by omega) v7 (xb.take kk.toNat) (yb.drop kk.toNat) Ay (256 - kk.toNat) (ci - kk.toNat) (fun _ => True) (fun _ => False) rfl rfl HR7.out (Kd.C_below HCY.out HB7.out) (fun _ _ h => h) (fun _ h => h.elim) (fun _ _ => trivial) HB7.out HB7.out.size (by have := HKK.out; rw [List.length_take]; omega) ?_
  intro v8 w8 hr8 hb8 hg8 hat8
  obtain ⟨A8, c8, e8⟩ := Kd.R_slice hr8
  have hl8 : (xb.take kk.toNat ++ yb.drop kk.toNat).length = 256 := by have := HKK.out; rw [List.length_append, List.length_take, List.length_drop, HXL.out, HYL.out]; omega
  rw [hl8] at e8
  subst e8
  have HR8 := Aside0.mk hr8
  have HL8 := Aside0.mk hl8
  have HB8 := Aside0.mk hb8
  have HN8 := Aside0.mk (Kd.N_below HN5.out hb8)
  obtain ⟨ct0, hct0, hFK0, hcc0, hfr0⟩ := Kd.N_elem HN8.out ([] : List Int) f p2' q2'
  have hx8 : w8.cell? ⟨gt, f.toNat, none⟩ = some (.slice Ai2 256 ci2) := by have h := (HT5.out w8 hb8); exact h
  have hf8 : w8.frozen? ⟨gt, f.toNat, none⟩ = false := by have h := hfr0 0; rwa [show (Kd.slice 5 (Kd.int .u8)).sz = 1 from rfl, Nat.mul_one, Nat.add_zero] at h
  clear hr8 hb8 hg8 hat8 hl8 hct0 hFK0 hcc0 hfr0
  refine hKq.out _ _ (HG5.out w8 HB8.out) (fun hHeld => ?_)
  clear hKq Kq
  refine norm_ (a' := ?_) ?_ ?_
  rotate_left
  · show Act.put _ (some 29) _ = _
    simp only [Act.put, List.setIfInBounds_toArray, List.set_cons_zero, List.set_cons_succ, i64_w, i32_w]
    rfl
  refine pure_ (i := 18) (N := some 30) (v := ?_) (a' := ?_) #[true, true, true, true, true, true, true, true, true, true, true, true, true, true, true, true, true, true, true, false] rfl rfl (any_of HT_.out (by kernel_rfl)) (fun _ _ _ h => h) (Or.inl ⟨by rfl, ?_⟩) ?_ ?_
  rotate_left
  · intro w'
    go_simp
    with_reducible rfl
  rotate_left
  · simp only [Act.put, List.setIfInBounds_toArray, List.set_cons_zero, List.set_cons_succ, i64_w, i32_w]
    rfl
  refine last_ (i := 19) (N := none) #[true, true, true, true, true, true, true, true, true, true, true, true, true, true, true, true, true, true, true, true] rfl rfl (one_of HT_.out (by kernel_rfl)) (by decide) (fun Kq hKq => ?_)
  refine skip_ (w1 := ?_) (by rfl) rfl ?_ ?_
  rotate_left
  · go_simp
    rfl
  refine hKq.out _ _ ?_
  clear hKq Kq
  refine done_ (done_of HT_.out (by kernel_rfl)) ?_
  have HFA := Aside0.mk (show Kd.F (Kd.int .u8) w8 (fun k => w3.heap.size ≤ k ∧ k ≠ gt) A8 256 (xb.take kk.toNat ++ yb.drop kk.toNat) from Kd.F_mono (Kd.R_F (Kd.R_bound HR8.out)) (fun k hk => by have h1 : w5.drew.heap.size ≤ k := hk.2.1; have h2 := HB3R.out.size; have h3 := HGT.out.2; have h4 : w5.drew.heap.size = w5.heap.size := rfl; exact ⟨by omega, by omega⟩))
  have HL8c := Aside0.mk (show 256 ≤ c8 from (Kd.R_reads' HR8.out).2.1)
  have hlen8 := (Kd.R_reads' HR8.out).1
  have hseg := Kd.N_seg (Kd.N_mono (ok' := fun k => (P k ∧ k < w.heap.size) ∨ w3.heap.size ≤ k) HN8.out (fun k hk => hk.1)) f p2' q2' (c := [.slice Ai2 256 ci2]) (seg := [.slice A8 256 c8]) (j := 0) rfl (fun j u hu => by
    rcases j with _ | j
    · have e : u = .slice Ai2 256 ci2 := by simpa using hu.symm
      subst e
      rw [show (Kd.slice 5 (Kd.int .u8)).sz = 1 from rfl, Nat.mul_one, Nat.add_zero]
      exact hx8
    · simp at hu) (Nat.le_refl 1) (x' := xb.take kk.toNat ++ yb.drop kk.toNat) (okp := fun k => w3.heap.size ≤ k ∧ k ≠ gt) (by
      have h := Kd.FK_slice_mk (e := 5) (c := c8) (A := A8) (d := Kd.int .u8) (W := w8) (ok := fun k => w3.heap.size ≤ k ∧ k ≠ gt) (l := xb.take kk.toNat ++ yb.drop kk.toNat) (by rw [← hlen8]; exact HL8c.out) (by rw [← hlen8]; exact HFA.out)
      rw [← hlen8] at h
      exact h) (fun k hk => ⟨.inr hk.1, hk.2⟩)
  rw [show (Kd.slice 5 (Kd.int .u8)).sz = 1 from rfl, Nat.mul_one, Nat.add_zero] at hseg
  have HN9 := Aside0.mk (show Kd.N (Kd.slice 5 (Kd.int .u8)) 22 (w8.setCell ⟨gt, f.toNat, none⟩ (.slice A8 256 c8)) w.heap.size (fun k => (P k ∧ k < w.heap.size) ∨ w3.heap.size ≤ k) (.slice (some ⟨gt, 0, none⟩) bl.length ct) (bl.set f.toNat (xb.take kk.toNat ++ yb.drop kk.toNat)) from hseg.1)
  have HG9 := Aside0.mk (show w8.grownBy (w8.setCell ⟨gt, f.toNat, none⟩ (.slice A8 256 c8)) (some gt) from hseg.2)
  generalize w8.setCell ⟨gt, f.toNat, none⟩ (.slice A8 256 c8) = w9 at HN9 HG9 ⊢
  have HB38 := Aside0.mk (below_step HB3R.out HB8.out)
  have HB9 := Aside0.mk (show Below w3.heap.size w3 w9 from pw_below_grown HB38.out (some gt) HB38.out.size HG9.out (fun k e => by have e2 : gt = k := Option.some.inj e; have := HGT.out.1; omega))
  have HBW9 := Aside0.mk (below_step HB3.out HB9.out)
  have hb3 := blk_below HK33.out HB9.out
  have hb6 := blk_below HKg6.out HB9.out
  have HB3K := Aside0.mk hb3
  have HB6K := Aside0.mk hb6
  have hc0 : w9.cell? ⟨g3, 0, none⟩ = some (.slice (some ad) bl.length c0) := (blk_cell hb3 0).trans rfl
  have hcf0 : w9.frozen? ⟨g3, 0, none⟩ = false := blk_frozen hb3 0
  have hc1 : w9.cell? ⟨g3, 1, none⟩ = some (.slice A1 ws.length c1) := (blk_cell hb3 1).trans rfl
  have hcf1 : w9.frozen? ⟨g3, 1, none⟩ = false := blk_frozen hb3 1
  have hc2 : w9.cell? ⟨g3, 2, none⟩ = some (.slice A2 bad.length c2) := (blk_cell hb3 2).trans rfl
  have hcf2 : w9.frozen? ⟨g3, 2, none⟩ = false := blk_frozen hb3 2
  have hc3 : w9.cell? ⟨g3, 3, none⟩ = some (.bool down) := (blk_cell hb3 3).trans rfl
  have hcf3 : w9.frozen? ⟨g3, 3, none⟩ = false := blk_frozen hb3 3
  have hc4 : w9.cell? ⟨g3, 4, none⟩ = some (.bool cut) := (blk_cell hb3 4).trans rfl
  have hcf4 : w9.frozen? ⟨g3, 4, none⟩ = false := blk_frozen hb3 4
  have hc5 : w9.cell? ⟨g3, 5, none⟩ = some (.int .i64 left) := (blk_cell hb3 5).trans rfl
  have hcf5 : w9.frozen? ⟨g3, 5, none⟩ = false := blk_frozen hb3 5
  have hz0 : w9.cell? ⟨g6, 0, none⟩ = some (.slice none 0 0) := (blk_cell hb6 0).trans rfl
  have hzf0 : w9.frozen? ⟨g6, 0, none⟩ = false := blk_frozen hb6 0
  have hz1 : w9.cell? ⟨g6, 1, none⟩ = some (.slice none 0 0) := (blk_cell hb6 1).trans rfl
  have hzf1 : w9.frozen? ⟨g6, 1, none⟩ = false := blk_frozen hb6 1
  have hz2 : w9.cell? ⟨g6, 2, none⟩ = some (.slice none 0 0) := (blk_cell hb6 2).trans rfl
  have hzf2 : w9.frozen? ⟨g6, 2, none⟩ = false := blk_frozen hb6 2
  have hz3 : w9.cell? ⟨g6, 3, none⟩ = some (.bool false) := (blk_cell hb6 3).trans rfl
  have hzf3 : w9.frozen? ⟨g6, 3, none⟩ = false := blk_frozen hb6 3
  have hz4 : w9.cell? ⟨g6, 4, none⟩ = some (.bool false) := (blk_cell hb6 4).trans rfl
  have hzf4 : w9.frozen? ⟨g6, 4, none⟩ = false := blk_frozen hb6 4
  have hz5 : w9.cell? ⟨g6, 5, none⟩ = some (.int .i64 0) := (blk_cell hb6 5).trans rfl
  have hzf5 : w9.frozen? ⟨g6, 5, none⟩ = false := blk_frozen hb6 5
  have hne1 : g3 ≠ g6 := by have := HGS.out; omega
  have hne2 : g6 ≠ g3 := fun e => hne1 e.symm
  have HNE := Aside0.mk hne2
  clear hb3 hb6 hlen8 hseg hx8 hf8 hcut1 hcut2 p2 q2 p2' q2'
  go_wp2
  refine bodyPost_ret (results_cell_row rfl _ _ g6 102 (stC (.slice (some ⟨gt, 0, none⟩) bl.length ct) (.slice A1 ws.length c1) (.slice A2 bad.length c2) down cut left) (0, 0) _ rfl (set6_blk (blk_far HB6K.out (p := ⟨g3, 0, none⟩) HNE.out _) rfl _ _ _ _ _ _) Try.underlying102 rfl (by kernel_rfl)) rfl ?_
  have hgs := HGS.out
  have HBF := below_any_set (HBW9.out) (g := g3) (h := g6) (by omega) (by omega)
  refine ⟨_, rfl, ⟨?_, ?_, ?_⟩, set6_below (HBW9.out.setCell (p := ⟨g3, 0, none⟩) (by show w.heap.size ≤ g3; omega) _) (by omega) _ _ _ _ _ _⟩
  · have h := Kd.N_V (base' := 0) HN9.out
    have h2 := HB3.out.size
    refine Kd.V_mono (Kd.V_step h (fun k hk _ => ?_)) (fun k hk => hk.elim (fun h => .inl h.1) (fun h => .inr (Nat.le_trans h2 h)))
    have hk1 : k ≠ g3 := by
      rcases hk with hk | hk
      · have := hk.2; omega
      · omega
    have hk2 : k ≠ g6 := by
      rcases hk with hk | hk
      · have := hk.2; omega
      · omega
    exact (set6_far hk2 _ _ _ _ _ _).trans (Below.heap_setCell _ ⟨g3, 0, none⟩ _ _ hk1)
  · exact (HS.out.below (HBF _ _ _ _ _ _ _)).q |> fun h => Kd.V_mono h (fun k hk => .inl hk)
  · exact (HS.out.below (HBF _ _ _ _ _ _ _)).d |> fun h => Kd.V_mono h (fun k hk => .inl hk)

end Go.Proofs.Ytdbfclfglpbpmaa.Dsk
