/- (Reader).Key and a copy into an array of one's own, walked by hand. No condition. -/
import Derived.Test.YthcpfkkddfgamaaCcP
import Derived.Test.YthcpfkkddfgamaaGenC
namespace Go.Proofs.Ythcpfkkddfgamaa.Cod
open Go.AnyFacts Go.Proofs.Ythcpfkkddfgamaa.Sha Go.RowKit Go.Proofs.YthcpfkkddfgamaaW.Hand Go.Proofs.YthcpfkkddfgamaaW.PrintWords Go.Proofs.YthcpfkkddfgamaaW.PrintLast Go.Proofs.YthcpfkkddfgamaaW.PrintMore Go.Proofs.Ythcpfkkddfgamaa.PF06C Go.Proofs.Ythcpfkkddfgamaa.Base Go.Proofs.Ythcpfkkddfgamaa.LF06C
attribute [local go_sem] max2_int min2_int max_two min_two max_three min_three max_four min_four
set_option linter.unusedVariables false
set_option linter.unusedSimpArgs false
/-- A result that lies in a block that is known whole. -/
theorem ret_cell {P : Program} {fn : Func} {R : Ending → World → Prop} {a : Act} {w : World} {t : Tmp} {ty : TypeId} (h : fn.results = #[.cell t ty]) (hd : a.defers = []) (g : Nat) (hv : a.tmps.getD t undef = .pointer (some ⟨g, 0, none⟩)) (cells : Array Value) (t' : TypeId) (d : TypeDesc)
    (hg : w.heap[g]? = some (.cells cells t' (0, 0))) (hu : P.underlying ty = some d) (hdd : (match d with | .struct _ | .array _ _ => true | _ => false) = true) (hi : (P.info? ty).map (·.size) = some cells.size) (hR : R (.returned (.agg cells)) w) : bodyPost P fn R .ret a w := by
  refine bodyPost_ret (v := .agg cells) ?_ hd hR
  exact results_cell_row h a.tmps w g t' cells (0, 0) d hv hg hu hdd hi
/-- copy of whole elements, into a row that has room for them. -/
theorem run_copy_sz {P : Program} (w : World) (dT sT ty elem : TypeId) (b o dLen dCap : Nat) (a : Addr) (sLen sCap size m : Nat) (cs : List Value) (hu : P.underlying dT = some (.slice elem)) (hs : (P.info? elem).map (·.size) = some size) (hm : Nat.min sLen dLen = m) (hn : cs.length = m * size)
    (hsrc : ∀ j v, cs[j]? = some v → w.cell? (a.add j) = some v) (hsp : ∀ j, j < cs.length → (w.cell? ⟨b, o + j, none⟩).isSome = true) (hfz : ∀ j, j < cs.length → w.frozen? ⟨b, o + j, none⟩ = false) (h1 : ∀ v ∈ cs, v.oneCell' = true) :
    (Builtin.copy_ #[dT, sT] ty #[.slice (some ⟨b, o, none⟩) dLen dCap, .slice (some a) sLen sCap]).run P w = .ok (goInt m) (w.setCells b o cs) := by
  have hl := run_loadCells_list (P := P) w a cs hsrc
  have hst := run_storeCells_cells (P := P) b o cs 0 w (by simpa using hsp) (by simpa using hfz) h1
  simp only [Nat.add_zero] at hst
  cases hq : P.info? elem with
  | none => simp [hq] at hs
  | some i =>
    have hi : i.size = size := by simpa [hq] using hs
    rw [hn] at hl
    simp [Builtin.copy_, run_underlying hu, Builtin.lenOf, Builtin.firstCells, sizeOf, typeInfo, hq, hi, hm, hl, hst]
/-- One operation 'copy' whose run is known, in a region that draws. -/
theorem step_copy_known {P : Program} {ops : Array Oper} {o : Oper} {a : Act} {w : World} {K : Act → World → Prop} {Q : Exit → Act → World → Prop} {E : Prop}
    (hg : o.guard = none) (d x : Operand) (dT sT : TypeId) (hop : o.op = Op.call { callee := Callee.builtin Builtin.copy, args := #[d, x], argTypes := #[dT, sT] })
    (v u : Value) (hd : a.eval d = v) (hx : a.eval x = u) {v' : Value} {w' : World} (hr : (Builtin.copy_ #[dT, sT] o.type #[v, u]).run P w = .ok v' w') (hK : K (a.put o.dst v') w') :
    if Region.wanted o (yielded ops a.tmps) = true then Oper.wp P o a w K Q else E := by
  rw [if_pos (by simp [Region.wanted, hg])]
  simp [Oper.wp, execOp, hop, resolve, invoke, builtin, hd, hx, hr, Result.andThen]
  exact hK

section
variable {P : Program} {ops : Array Oper} {rest : List Oper} {o : Oper} {a : Act} {W : World} {Q : Exit → Act → World → Prop}
/-- 'copy' over all of an array of one's own. -/
theorem L_copyarr (hgd : o.guard = none) (s x : Operand) (t : TypeId) (ho : o.op = .call { callee := .builtin .copy, args := #[s, x], argTypes := #[t, t] }) (ht : P.underlying t = some (.slice 5)) (hinfo : (P.info? 5).map (·.size) = some 1)
    (g n : Nat) (ys : List Int) (A : Option Addr) (c : Nat) (hs : a.eval s = .slice (some ⟨g, 0, none⟩) n n) (hx : a.eval x = .slice A n c) (hn : ys.length = n) (hC : Kd.C (Kd.int .u8) W A n ys) (hp : 0 < n) (old : Array Value) (ty : TypeId) (hg : W.heap[g]? = some (.cells old ty (0, 0))) (hsz : old.size = n)
    (h : ∀ v' w', w'.heap[g]? = some (.cells (arr .u8 ys) ty (0, 0)) → Upd W w' g → wpList P ops Q rest (a.put o.dst v') w') : wpList P ops Q (o :: rest) a W := by
  subst hn
  obtain ⟨ad, rfl, hc⟩ := C_cells hC hp
  have hl : (ys.map (Value.int .u8)).length = ys.length * 1 := by simp
  have hr := run_copy_sz (P := P) W t t o.type 5 g 0 ys.length ys.length ad ys.length c 1 ys.length (ys.map (Value.int .u8)) ht hinfo (Nat.min_self _) hl hc
    (fun j hj => by rw [cell_of_row W g _ old ty (0, 0) hg, Array.getElem?_eq_getElem (by omega)]; rfl) (fun j hj => blk_frozen hg _) (fun v hv => by obtain ⟨x, _, rfl⟩ := List.mem_map.1 hv; rfl)
  obtain ⟨cur', e1, e2, e3⟩ := setCells_row (ys.map (Value.int .u8)) 0 W old hg (by omega)
  obtain ⟨s1, s2, s3, s4⟩ := setCells_same g (ys.map (Value.int .u8)) 0 W
  have e4 : cur' = arr .u8 ys := by
    apply Array.toList_inj.1
    rw [e3]
    unfold arr
    rw [List.drop_of_length_le (by rw [Array.length_toList]; omega)]
    simp
  rw [e4] at e1
  refine wpList_plain hgd fun K hK => ?_
  unfold Oper.wp execOp
  simp only [ho, resolve, invoke, builtin, Sem.run_bind, Sem.run_pure, Result.andThen_ok, List.map_toArray, List.map_cons, List.map_nil, hs, hx, hr]
  exact hK _ _ (h _ _ e1 ⟨s1, s2, s3, s4, fun k hk => setCells_far _ 0 k hk⟩)
end

def Z32 : List Int := List.replicate 32 0
def keyR (rest : List Int) (e : Int) : List Int × List Int × Int := (if (takeR rest e 32).2.1 = true then (takeR rest e 32).1 else Z32, (takeR rest e 32).2.2.1, (takeR rest e 32).2.2.2)
theorem keyR_len (rest : List Int) (e : Int) : (keyR rest e).1.length = 32 := by
  unfold keyR takeR
  by_cases he : e = 0
  · by_cases hl : (32 : Int) ≤ (rest.length : Int)
    · rw [if_pos he, if_pos hl]
      show (rest.take 32).length = 32
      rw [List.length_take]
      omega
    · rw [if_pos he, if_neg hl]
      rfl
  · rw [if_neg he]
    rfl
theorem RSt.glt {w wr : World} {g : Nat} {rest : List Int} {e : Int} (s : RSt w g rest e wr) : g < wr.heap.size := by
  obtain ⟨A, c, h1, h2⟩ := s.st
  exact blk_lt h1
theorem key_end0 {w wr w3 w4 w9 : World} {g g2 : Nat} {v2 : Value} {rest' : List Int} {e' : Int} (hnew : w.heap.size ≤ g) (hlt : g < wr.heap.size) (hg2 : wr.heap.size ≤ g2) (hg3 : g2 < w3.heap.size) (hV2 : Kd.V (Kd.int .u8) 5 w4 w.heap.size (fun k => (k ≠ g ∧ k < wr.heap.size) ∨ w3.heap.size ≤ k) v2 rest') (hb4 : w4.heap[g]? = some (.cells #[v2, .int .i64 e'] 119 (0, 0))) (hB4 : Below w.heap.size w w4) (hle : wr.heap.size ≤ w3.heap.size) (hu : Upd w4 w9 g2) : RSt w g rest' e' w9 := by
  obtain ⟨A, c, rfl⟩ := Kd.V_slice hV2
  refine ⟨⟨A, c, (hu.block g (by omega)).trans hb4, Kd.V_mono (Kd.V_step hV2 (fun k hk _ => hu.block k (fun e => ?_))) (fun k hk => ?_)⟩, hu.below hB4 (by omega), hnew⟩
  · subst e
    rcases hk with hk | hk <;> omega
  · rcases hk with hk | hk
    · exact hk.1
    · omega
theorem key_end {w wr w3 w4 w5 w9 : World} {g g2 g3 : Nat} {v2 : Value} {rest' : List Int} {e' : Int} (hnew : w.heap.size ≤ g) (hlt : g < wr.heap.size) (hg2 : wr.heap.size ≤ g2) (hg3 : g2 < w3.heap.size) (hh2 : wr.heap.size ≤ g3) (hh3 : g3 < w3.heap.size) (hV2 : Kd.V (Kd.int .u8) 5 w4 w.heap.size (fun k => (k ≠ g ∧ k < wr.heap.size) ∨ w3.heap.size ≤ k) v2 rest') (hb4 : w4.heap[g]? = some (.cells #[v2, .int .i64 e'] 119 (0, 0))) (hB4 : Below w.heap.size w w4) (hle : wr.heap.size ≤ w3.heap.size) (hu5 : Upd w4 w5 g3) (hu : Upd w5 w9 g2) : RSt w g rest' e' w9 := by
  obtain ⟨A, c, rfl⟩ := Kd.V_slice hV2
  refine ⟨⟨A, c, (hu.block g (by omega)).trans ((hu5.block g (by omega)).trans hb4), Kd.V_mono (Kd.V_step hV2 (fun k hk _ => (hu.block k (fun e => ?_)).trans (hu5.block k (fun e => ?_)))) (fun k hk => ?_)⟩, hu.below (hu5.below hB4 (by omega)) (by omega), hnew⟩
  · subst e
    rcases hk with hk | hk <;> omega
  · subst e
    rcases hk with hk | hk <;> omega
  · rcases hk with hk | hk
    · exact hk.1
    · omega
theorem kept_first0 {w W W2 : World} {S : Nat → Prop} (h : Kept W W2 S) (hb : Below w.heap.size w W) : Kept w W2 S := ⟨Nat.le_trans hb.size h.1, fun i hi hn => (h.2 i (Nat.lt_of_lt_of_le hi hb.size) hn).trans (hb.block i hi)⟩
theorem kept_upd {w W W2 : World} {S : Nat → Prop} {g2 : Nat} (h : Kept w W S) (hu : Upd W W2 g2) (hg : w.heap.size ≤ g2) : Kept w W2 S := ⟨by rw [hu.size]; exact h.1, fun i hi hn => (hu.block i (by omega)).trans (h.2 i hi hn)⟩
set_option maxHeartbeats 8000000 in
set_option maxRecDepth 100000 in
theorem RSt.key_walk {w wr : World} {g : Nat} {rest : List Int} {e : Int} (s : RSt w g rest e wr) : Calls Try.prog 56 #[.pointer (some ⟨g, 0, none⟩)] wr fun en w' => en = .returned (.agg (arr .u8 (keyR rest e).1)) ∧ RSt w g (keyR rest e).2.1 (keyR rest e).2.2 w' ∧ Kept wr w' (fun k => k = g) := by
  have htk := take_f rest e 32 (by decide)
  have HLT := Aside0.mk s.glt
  have hlen := keyR_len rest e
  obtain ⟨A, c, h1, h2⟩ := s.st
  have HS1 := Aside0.mk h1
  have HV1 := Aside0.mk (Kd.V_bound h2)
  have HNEW := Aside0.mk s.new
  have HBW := Aside0.mk s.below
  unfold keyR at hlen ⊢
  generalize hT : takeR rest e 32 = T at htk hlen ⊢
  obtain ⟨x, b, rest', e'⟩ := T
  have HTK := Aside0.mk htk
  have HLEN := Aside0.mk hlen
  clear s h1 h2 htk hT hlen
  cases b with
  | false =>
    go_enter Try.func56, Try.ntmps56
    go_wp2_with (first
      | ((with_reducible refine gate_dst (N := 2) rfl ?_); refine L_alloc rfl 90 rfl (.agg (arr .u8 Z32)) 32 (by kernel_rfl) ?_; intro g2 w2 hb hg hs hl; have HB2 := Aside0.mk hb; have HG2 := Aside0.mk hg; have HL2 := Aside0.mk hl; clear hb hg hs hl)
      | ((with_reducible refine gate_dst (N := 3) rfl ?_); refine L_alloc rfl 90 rfl (.agg (arr .u8 Z32)) 32 (by kernel_rfl) ?_; intro g3 w3 hb hg hs hl; have HB3 := Aside0.mk hb; have HG3 := Aside0.mk hg; have HL3 := Aside0.mk hl; clear hb hg hs hl)
      | (go_at_call 82; refine (codec_Reader_take.calls g (fun k => k ≠ g ∧ k < wr.heap.size) A c rest e 32 x false rest' e' w w3 (blk_below (blk_below HS1.out HL2.out) HL3.out) HNEW.out (below_step (below_step HBW.out HL2.out) HL3.out) (Kd.V_mono (Kd.V_below (Kd.V_below HV1.out HL2.out) HL3.out) (fun k hk => ⟨hk, hk.1⟩)) HTK.out).mono ?_; rintro en w4 ⟨v0, v2, ⟨rfl, hV0, hV2, hb4, hB4, hk4⟩⟩; obtain ⟨A0, c0, rfl⟩ := Kd.V_slice hV0; have HV0 := Aside0.mk hV0; have HV2 := Aside0.mk hV2; have HB4 := Aside0.mk hb4; have HBL4 := Aside0.mk hB4; have HK4 := Aside0.mk hk4; have HG3' := Aside0.mk (blk_kept HB3.out hk4 (by have := HLT.out; have := HG2.out; have := HG3.out; have := HL2.out.size; omega)); have HG2' := Aside0.mk (blk_kept (blk_below HB2.out HL3.out) hk4 (by have := HLT.out; have := HG2.out; omega)); clear hV0 hV2 hb4 hB4 hk4)
      | ((with_reducible refine gate_dst (N := 15) rfl ?_); refine L_load rfl 90 (.tmp 3) rfl g3 rfl 90 (arr .u8 Z32) _ HG3'.out Try.underlying90 rfl (by rw [arr_size]; kernel_rfl) ?_)
      | (refine L_store rfl rfl 90 (.tmp 2) (.tmp 15) (by rfl) g2 (arr .u8 Z32) (by rfl) (by rfl) (arr .u8 Z32) 90 HG2'.out (by first | rfl | (rw [arr_size, arr_size]; rfl)) (by rw [arr_size]; kernel_rfl) (arr_one _ _) ?_; intro w9 hb9 hu9; have HB9 := Aside0.mk hb9; have HU9 := Aside0.mk hu9; clear hb9 hu9))
    exact ret_cell rfl rfl g2 rfl (arr .u8 Z32) 90 _ HB9.out Try.underlying90 rfl (by rw [arr_size]; kernel_rfl) ⟨rfl, key_end0 HNEW.out HLT.out (Nat.le_of_eq HG2.out) (by have := HL3.out.size; have := blk_lt HB2.out; omega) HV2.out HB4.out HBL4.out (Nat.le_trans HL2.out.size HL3.out.size) HU9.out, kept_upd (kept_first0 HK4.out (below_step HL2.out HL3.out)) HU9.out (Nat.le_of_eq HG2.out)⟩
  | true =>
    have hl32 : x.length = 32 := HLEN.out
    have HX := Aside0.mk hl32
    clear hl32
    go_enter Try.func56, Try.ntmps56
    go_wp2_with (first
      | ((with_reducible refine gate_dst (N := 2) rfl ?_); refine L_alloc rfl 90 rfl (.agg (arr .u8 Z32)) 32 (by kernel_rfl) ?_; intro g2 w2 hb hg hs hl; have HB2 := Aside0.mk hb; have HG2 := Aside0.mk hg; have HL2 := Aside0.mk hl; clear hb hg hs hl)
      | ((with_reducible refine gate_dst (N := 3) rfl ?_); refine L_alloc rfl 90 rfl (.agg (arr .u8 Z32)) 32 (by kernel_rfl) ?_; intro g3 w3 hb hg hs hl; have HB3 := Aside0.mk hb; have HG3 := Aside0.mk hg; have HL3 := Aside0.mk hl; clear hb hg hs hl)
      | (go_at_call 82; refine (codec_Reader_take.calls g (fun k => k ≠ g ∧ k < wr.heap.size) A c rest e 32 x true rest' e' w w3 (blk_below (blk_below HS1.out HL2.out) HL3.out) HNEW.out (below_step (below_step HBW.out HL2.out) HL3.out) (Kd.V_mono (Kd.V_below (Kd.V_below HV1.out HL2.out) HL3.out) (fun k hk => ⟨hk, hk.1⟩)) HTK.out).mono ?_; rintro en w4 ⟨v0, v2, ⟨rfl, hV0, hV2, hb4, hB4, hk4⟩⟩; obtain ⟨A0, c0, rfl⟩ := Kd.V_slice hV0; have HV0 := Aside0.mk hV0; have HV2 := Aside0.mk hV2; have HB4 := Aside0.mk hb4; have HBL4 := Aside0.mk hB4; have HK4 := Aside0.mk hk4; have HG3' := Aside0.mk (blk_kept HB3.out hk4 (by have := HLT.out; have := HG2.out; have := HG3.out; have := HL2.out.size; omega)); have HG2' := Aside0.mk (blk_kept (blk_below HB2.out HL3.out) hk4 (by have := HLT.out; have := HG2.out; omega)); clear hV0 hV2 hb4 hB4 hk4)
      | ((with_reducible refine gate_dst (N := 14) rfl ?_); refine L_copyarr rfl (.tmp 12) (.tmp 13) 28 rfl Try.underlying28 (by kernel_rfl) g3 32 x A0 c0 rfl (by show Value.slice A0 x.length c0 = _; rw [HX.out]) HX.out (by rw [← HX.out]; exact (Kd.V_reads' HV0.out).2.2) (by decide) (arr .u8 Z32) 90 HG3'.out (by rw [arr_size]; rfl) ?_; intro vc w5 hb5 hu5; have HB5 := Aside0.mk hb5; have HU5 := Aside0.mk hu5; have HG2'' := Aside0.mk ((hu5.block g2 (by have := HG2.out; have := HG3.out; have := blk_lt HB2.out; omega)).trans HG2'.out); clear hb5 hu5)
      | ((with_reducible refine gate_dst (N := 15) rfl ?_); refine L_load rfl 90 (.tmp 3) rfl g3 rfl 90 (arr .u8 x) _ HB5.out Try.underlying90 rfl (by rw [arr_size, HX.out]; kernel_rfl) ?_)
      | (refine L_store rfl rfl 90 (.tmp 2) (.tmp 15) (by rfl) g2 (arr .u8 x) (by rfl) (by rfl) (arr .u8 Z32) 90 HG2''.out (by first | rfl | (rw [arr_size, arr_size, HX.out]; rfl)) (by rw [arr_size, HX.out]; kernel_rfl) (arr_one _ _) ?_; intro w9 hb9 hu9; have HB9 := Aside0.mk hb9; have HU9 := Aside0.mk hu9; clear hb9 hu9))
    exact ret_cell rfl rfl g2 rfl (arr .u8 x) 90 _ HB9.out Try.underlying90 rfl (by rw [arr_size, HX.out]; kernel_rfl) ⟨rfl, key_end HNEW.out HLT.out (Nat.le_of_eq HG2.out) (by have := HL3.out.size; have := blk_lt HB2.out; omega) (by have := HG3.out; have := HL2.out.size; omega) (blk_lt HB3.out) HV2.out HB4.out HBL4.out (Nat.le_trans HL2.out.size HL3.out.size) HU5.out HU9.out, kept_upd (kept_upd (kept_first0 HK4.out (below_step HL2.out HL3.out)) HU5.out (by have := HG3.out; have := HL2.out.size; omega)) HU9.out (Nat.le_of_eq HG2.out)⟩

end Go.Proofs.Ythcpfkkddfgamaa.Cod
