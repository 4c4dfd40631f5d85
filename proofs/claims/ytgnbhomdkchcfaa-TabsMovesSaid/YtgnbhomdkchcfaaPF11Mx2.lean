/- By a program of this session (wip/tool/pp.py): plain Lean functions of the Go functions that this family of laws uses, the walks that the Go code comes to their answers, and the row of the law. No condition beside those that the row itself gives. -/
import Derived.Test.YtgnbhomdkchcfaaPF11Mx0
import Derived.Test.YtgnbhomdkchcfaaPF11Mx1
namespace Go.Proofs.Ytgnbhomdkchcfaa.PF11M
open Go.RowKit Go.Proofs.YtgnbhomdkchcfaaW.Hand Go.Proofs.YtgnbhomdkchcfaaW.PrintWords Go.Proofs.YtgnbhomdkchcfaaW.PrintLast Go.Proofs.YtgnbhomdkchcfaaW.PrintMore
attribute [local go_sem] max2_int min2_int max_two min_two max_three min_three max_four min_four   -- for this text's walks alone
set_option linter.unusedVariables false
set_option linter.unusedSimpArgs false

theorem int_openM {W : World} {b : Nat} {ok : Nat → Prop} {x : Int} {c : List Value} (h : (Kd.int .i64).M W b ok x c) : c = [.int .i64 x] := h
/-! ### slices_Insert_int_int: function 32, of one element (by hand) -/
/-- copy of whole elements, into a row that has room for them. -/
theorem run_copy_sz {P : Program} (w : World) (dT sT ty elem : TypeId) (b o dLen dCap : Nat) (a : Addr) (sLen sCap size m : Nat) (cs : List Value) (hu : P.underlying dT = some (.slice elem)) (hs : (P.info? elem).map (·.size) = some size) (hm : Nat.min sLen dLen = m) (hn : cs.length = m * size)
    (hsrc : ∀ j v, cs[j]? = some v → w.cell? (a.add j) = some v) (hsp : ∀ j, j < cs.length → (w.cell? ⟨b, o + j, none⟩).isSome = true) (hfz : ∀ j, j < cs.length → w.frozen? ⟨b, o + j, none⟩ = false) (h1 : ∀ v ∈ cs, v.oneCell' = true) :
    (Builtin.copy_ #[dT, sT] ty #[.slice (some ⟨b, o, none⟩) dLen dCap, .slice (some a) sLen sCap]).run P w = .ok (goInt m) (w.setCells b o cs) := by
  have hl := run_loadCells_list (P := P) w a cs hsrc
  have hst := run_storeCells_cells (P := P) b o cs 0 w (by simpa using hsp) (by simpa using hfz) h1
  simp only [Nat.add_zero] at hst
  cases hq : P.info? elem with
  | none => simp [hq] at hs
  | some i =>
    have hi : i.size = size := by simpa [hq] using hs
    rw [hn] at hl
    simp [Builtin.copy_, run_underlying hu, Builtin.lenOf, Builtin.firstCells, sizeOf, typeInfo, hq, hi, hm, hl, hst]
/-- One operation 'copy' whose run is known, in a region that draws. -/
theorem step_copy_known {P : Program} {ops : Array Oper} {o : Oper} {a : Act} {w : World} {K : Act → World → Prop} {Q : Exit → Act → World → Prop} {E : Prop}
    (hg : o.guard = none) (d x : Operand) (dT sT : TypeId) (hop : o.op = Op.call { callee := Callee.builtin Builtin.copy, args := #[d, x], argTypes := #[dT, sT] })
    (v u : Value) (hd : a.eval d = v) (hx : a.eval x = u) {v' : Value} {w' : World} (hr : (Builtin.copy_ #[dT, sT] o.type #[v, u]).run P w = .ok v' w') (hK : K (a.put o.dst v') w') :
    if Region.wanted o (yielded ops a.tmps) = true then Oper.wp P o a w K Q else E := by
  rw [if_pos (by simp [Region.wanted, hg])]
  simp [Oper.wp, execOp, hop, resolve, invoke, builtin, hd, hx, hr, Result.andThen]
  exact hK
/-- Cells that say what a row's elements are, as a row of one's own. -/
theorem R_ofcells {α : Type} {d : Kd α} {e base g cap : Nat} {w W : World} {ok ok1 : Nat → Prop} {b1 : Nat} {xs : List α} {inner : List Value} (hM : ∀ (w w' : World) (b b' : Nat) (ok ok' : Nat → Prop) (x : α) (c : List Value), d.M w b ok x c → d.M w' b' ok' x c)
    (hr : Reps (d.M w b1 ok1) d.sz xs inner) {cur : Array Value} (hb : base ≤ g) (hh : W.heap[g]? = some (.cells cur e (0, 0))) (hnc : xs.length ≤ cap) (hcm : cap ≤ maxLen) (hcs : cur.size = cap * d.sz) (ht : cur.toList.take (xs.length * d.sz) = inner) (hok : ok g) :
    d.R e W base ok (.slice (some ⟨g, 0, none⟩) xs.length cap) xs := by
  refine ⟨fun k hk => ?_, inner, ⟨hr.1, .inr ⟨g, cap, cur, rfl, hb, hh, hnc, hcm, hcs, ht⟩⟩, hr.imp_ (fun x c h => hM _ _ _ _ _ _ x c h)⟩
  have : g = k := by simpa [Value.ownBlock] using hk
  subst this
  exact hok
/-- The cells of a row in which some have been moved up by one element and another one stands between. -/
theorem cells_ins {z n i : Nat} {cur cur1 cur2 ins v : List Value} (hi : i ≤ n) (hv : v.length = z) (hins : cur.take (n * z) = ins) (hl : n * z ≤ cur.length) (h1 : cur1 = cur.take ((i + 1) * z) ++ ins.drop (i * z) ++ cur.drop ((i + 1) * z + (ins.drop (i * z)).length)) (h2 : cur2 = cur1.take (i * z) ++ v ++ cur1.drop (i * z + v.length)) (hroom : (n + 1) * z ≤ cur.length) :
    cur2.take ((n + 1) * z) = ins.take (i * z) ++ v ++ ins.drop (i * z) := by
  have e1 : (i + 1) * z = i * z + z := by rw [Nat.add_mul, Nat.one_mul]
  have e2 : (n + 1) * z = n * z + z := by rw [Nat.add_mul, Nat.one_mul]
  have e3 : i * z ≤ n * z := Nat.mul_le_mul_right _ hi
  have hil : ins.length = n * z := by rw [← hins, List.length_take]; omega
  have hdl : (ins.drop (i * z)).length = n * z - i * z := by rw [List.length_drop, hil]
  have ht1 : cur1.take (i * z) = ins.take (i * z) := by
    rw [h1, List.append_assoc, List.take_append_of_le_length (by rw [List.length_take]; omega), List.take_take, ← hins, List.take_take]
    congr 1
    omega
  have hd1 : cur1.drop (i * z + v.length) = ins.drop (i * z) ++ cur.drop ((i + 1) * z + (ins.drop (i * z)).length) := by
    rw [h1, hv, ← e1, List.append_assoc, List.drop_append_of_le_length (by rw [List.length_take]; omega), List.drop_of_length_le (by rw [List.length_take]; omega), List.nil_append]
  rw [h2, ht1, hd1, ← List.append_assoc, List.take_append_of_le_length (by rw [List.length_append, List.length_append, List.length_take, hdl, hv, hil]; omega), List.take_of_length_le (by rw [List.length_append, List.length_append, List.length_take, hdl, hv, hil]; omega)]
theorem wrap_suc (n : Nat) (h : n < 1000000000) : wrap64 ((n : Int) + 1) = (n : Int) + 1 := by unfold wrap64; omega
theorem wrap_dif (n i : Nat) (h : n < 1000000000) (hi : i ≤ n) : wrap64 ((n : Int) + 1 - (i : Int)) = (n : Int) + 1 - (i : Int) := by unfold wrap64; omega
/-- The cells of a new row: what stood ahead, another one, and what stood behind. -/
theorem cells_grow {z n i : Nat} {row cur1 cur2 ins v : List Value} (hi : i ≤ n) (hv : v.length = z) (hins : ins.length = n * z) (hr : row.take (i * z) = ins.take (i * z)) (hl : (n + 1) * z ≤ row.length) (h1 : cur1 = row.take (i * z) ++ v ++ row.drop (i * z + v.length)) (h2 : cur2 = cur1.take ((i + 1) * z) ++ ins.drop (i * z) ++ cur1.drop ((i + 1) * z + (ins.drop (i * z)).length)) :
    cur2.take ((n + 1) * z) = ins.take (i * z) ++ v ++ ins.drop (i * z) := by
  have e1 : (i + 1) * z = i * z + z := by rw [Nat.add_mul, Nat.one_mul]
  have e2 : (n + 1) * z = n * z + z := by rw [Nat.add_mul, Nat.one_mul]
  have e3 : i * z ≤ n * z := Nat.mul_le_mul_right _ hi
  have hdl : (ins.drop (i * z)).length = n * z - i * z := by rw [List.length_drop, hins]
  have htl : (ins.take (i * z)).length = i * z := by rw [List.length_take, hins]; omega
  have hp : cur1.take ((i + 1) * z) = ins.take (i * z) ++ v := by
    rw [h1, hr, List.take_append_of_le_length (by rw [List.length_append, htl, hv]; omega), List.take_of_length_le (by rw [List.length_append, htl, hv]; omega)]
  rw [h2, hp, List.take_append_of_le_length (by rw [List.length_append, List.length_append, htl, hv, hdl]; omega), List.take_of_length_le (by rw [List.length_append, List.length_append, htl, hv, hdl]; omega)]
def slices_Insert_int_int.f (l0 : List Int) (a1 : Int) (l2 : List Int) : Option (List Int) := if 0 ≤ a1 ∧ a1 ≤ (l0.length : Int) ∧ l2.length = 1 ∧ l0.length < 1000000000 then some (l0.take a1.toNat ++ l2 ++ l0.drop a1.toNat) else none
theorem slices_Insert_int_int_flat (w w' : World) (b b' : Nat) (ok ok' : Nat → Prop) (x : Int) (c : List Value) (h : (Kd.int .i64).M w b ok x c) : (Kd.int .i64).M w' b' ok' x c := h
set_option maxHeartbeats 8000000 in
set_option maxRecDepth 100000 in
theorem slices_Insert_int_int.calls (P0_ : Nat → Prop) (u9000_ : Value) (l0 : List Int) (a1 : Int) (P2_ : Nat → Prop) (u9001_ : Value) (l2 : List Int) (r : List Int) (w0 w : World) (hB : Below w0.heap.size w0 w) (ho0 : Kd.R (Kd.int .i64) 3 w w0.heap.size P0_ u9000_ l0) (hp0_2 : ∀ k_, P0_ k_ → ¬ P2_ k_) (ho2 : Kd.R (Kd.int .i64) 3 w w0.heap.size P2_ u9001_ l2) (hp2_0 : ∀ k_, P2_ k_ → ¬ P0_ k_) (h : slices_Insert_int_int.f l0 a1 l2 = some r) :
    Calls Try.prog 32 #[u9000_, .int .i64 a1, u9001_] w fun e w' => ∃ v0_ : Value, e = .returned (v0_) ∧ Kd.R (Kd.int .i64) 3 w' w0.heap.size (fun k_ => ((P0_ k_ ∨ P2_ k_) ∨ w.heap.size ≤ k_)) v0_ r ∧ Below w0.heap.size w0 w' ∧ Kept w w' (fun k_ => P0_ k_ ∨ P2_ k_) := by
  unfold slices_Insert_int_int.f at h
  split at h
  · rename_i hc
    obtain ⟨hc0, hc1, hc2, hc3⟩ := hc
    obtain rfl := Option.some.inj h
    clear h
    obtain ⟨i, rfl⟩ := Int.eq_ofNat_of_zero_le hc0
    obtain ⟨x, rfl⟩ := List.length_eq_one_iff.1 hc2
    simp only [Int.toNat_natCast]
    have hi : i ≤ l0.length := by omega
    obtain ⟨i0, hi0, hz0, hsz0, hby0⟩ := info_parts info3
    have HC2 := (Kd.R_reads ho2)
    obtain ⟨A2, c2, rfl, hnc2, hC2⟩ := HC2
    obtain ⟨A, c, rfl, hnc, hC0⟩ := Kd.R_reads ho0
    have hcf := cut_from (P := Try.prog) 22 3 .i64 Try.underlying22 hi0 1 hsz0 A l0.length c (i : Int) (by omega) (by omega)
    simp only [List.length_singleton, Int.toNat_natCast] at hnc2 hC2 hcf ho2 ⊢
    by_cases hin : i = l0.length
    · subst hin
      obtain ⟨vc, hcv⟩ : ∃ v, ∀ W : World, (Instr.slice 22 (.slice A l0.length c) (some (.int .i64 (l0.length : Int))) none none).run Try.prog W = .ok v W := ⟨_, hcf⟩
      clear hcf
      rw [List.take_length, List.drop_length, List.append_nil]
      have HO := Aside0.mk (show Kd.R (Kd.int .i64) 3 w w0.heap.size (fun k_ => ((P0_ k_ ∨ P2_ k_) ∨ w.heap.size ≤ k_)) (.slice A l0.length c) l0 from Kd.R_mono ho0 (fun _ hk => .inl (.inl hk)))
      have HOK := Aside0.mk ho0.1
      have HC := Aside0.mk hC2
      have HB := Aside0.mk hB
      have HL := Aside0.mk hc3
      clear ho0 ho2 hC0 hC2 hB hc0 hc1 hc2 hc3 hi hp0_2 hp2_0 hnc hnc2 hi0 hz0 hsz0 hby0
      go_enter Try.func32, Try.ntmps32
      go_wp2_with ((with_reducible refine gate_dst (N := 25) rfl ?_); refine Kd.R_append_rows (Kd.int .i64) (w0 := w0) w0.heap.size rfl (.tmp 23) (.tmp 24) 22 3 (.int .i64 0) 8 rfl Try.underlying22 info3 rfl (by decide) (by omega) (.slice A l0.length c) l0 [x] A2 1 c2 (fun k_ => ((P0_ k_ ∨ P2_ k_) ∨ w.heap.size ≤ k_)) (fun _ => False) rfl rfl HO.out HC.out (fun _ _ h => h) (fun _ hk => hk.elim) (fun k hk => .inr hk) HB.out HB.out.size (by have := HL.out; omega) ?_; intro v1 w1 ho hb hg hat; have HO2 := Aside0.mk ho; have HB2 := Aside0.mk hb; have HG2 := Aside0.mk hg; clear ho hb hg hat)
      go_ret
      exact ⟨_, rfl, HO2.out, HB2.out, ⟨HG2.out.size, fun k hk hS => HG2.out.block k hk (fun e => hS (.inl (HOK.out k e.symm)))⟩⟩
    · have hlt : i < l0.length := by omega
      obtain ⟨hok0, in0, hown0, hr0⟩ := ho0
      obtain ⟨hok2, in2, hown2, hr2⟩ := ho2
      rcases hown2.2 with ⟨_, hn2⟩ | ⟨g2, cap2, cur2, hv2, hb2, hh2, hnn2, hcm2, hcs2, ht2⟩
      · cases hn2
      injection hv2 with ha2 hl_ hcc2
      clear hl_
      subst ha2; subst hcc2
      rcases hown0.2 with ⟨_, hn0⟩ | ⟨g, cap, cur, hv, hb, hh, hnn, hcm, hcs, ht⟩
      · omega
      injection hv with ha hl_ hcc
      clear hl_
      subst ha; subst hcc
      have hcs4 : cur.size = c * 1 := hcs
      have hcs24 : cur2.size = c2 * 1 := hcs2
      have HCM := Aside0.mk hcm
      have HZ := Aside0.mk hz0
      have HBY := Aside0.mk hby0
      clear hcs hcs2 hcm hcm2 hby0 hz0 hnn hnn2
      have hin2 : in2 = [.int .i64 x] := by
        have hl2 : in2.length = 1 := hr2.1
        have := int_openM (hr2.2 0 x rfl)
        rw [Nat.zero_mul, List.drop_zero, List.take_of_length_le (by rw [hl2]; exact Nat.le_refl _)] at this
        exact this
      have hl0 : in0.length = l0.length * 1 := hr0.1
      have hl2 : in2.length = 1 := hr2.1
      have hg2 : g2 ≠ g := fun e => hp0_2 g (hok0 g rfl) (by rw [← e]; exact hok2 g2 rfl)
      have hc0' : ∀ j v, in0[j]? = some v → w.cell? ⟨g, j, none⟩ = some v := fun j v hj => by
        have := hown0.cells (g := g) rfl j v hj
        rwa [add_plain] at this
      have hc2' : ∀ j v, in2[j]? = some v → w.cell? ⟨g2, j, none⟩ = some v := fun j v hj => by
        have := hown2.cells (g := g2) rfl j v hj
        rwa [add_plain] at this
      have h1c : ∀ v ∈ in0, v.oneCell' = true := Kd.reps_one hr0 (by decide) (fun _ _ hp => (Kd.int .i64).K_one ((Kd.int .i64).K_of_M hp))
      have h1v : ∀ v ∈ in2, v.oneCell' = true := Kd.reps_one hr2 (by decide) (fun _ _ hp => (Kd.int .i64).K_one ((Kd.int .i64).K_of_M hp))
      have hgl : g < w.heap.size := blk_lt hh
      have hg2l : g2 < w.heap.size := blk_lt hh2
      have hsz : (Try.prog.info? 3).map (·.size) = some 1 := by rw [hi0]; simp [hsz0]
      have hsz' : ∀ W, (sizeOf 3).run Try.prog W = .ok 1 W := fun W => by simp [sizeOf, typeInfo, hi0, hsz0]
      have hb1 : ((1 : Int) == 0) = false := rfl
      have hb2' : ((i : Int) == (l0.length : Int)) = false := beq_eq_false_iff_ne.2 (by omega)
      have hrall : Reps ((Kd.int .i64).M w w0.heap.size (fun _ => True)) 1 (l0.take i ++ [x] ++ l0.drop i) (in0.take (i * 1) ++ in2 ++ in0.drop (i * 1)) := by
        refine Kd.reps_append (Kd.reps_append (Kd.reps_take (hr0.imp_ (fun x c h => slices_Insert_int_int_flat _ _ _ _ _ _ x c h)) (by omega)) (hr2.imp_ (fun x c h => slices_Insert_int_int_flat _ _ _ _ _ _ x c h))) (Kd.reps_drop (hr0.imp_ (fun x c h => slices_Insert_int_int_flat _ _ _ _ _ _ x c h)))
      by_cases hroom : l0.length + 1 ≤ c
      · have hov : ∀ lb cb, (callFunc 61 #[.slice (some ⟨g2, 0, none⟩) 1 c2, .slice (some ⟨g, (i + 1) * 1, none⟩) lb cb]).run Try.prog w = .ok (.value (.bool false)) w := fun lb cb => by
          rw [run_callFunc_extern Try.func61 (by kernel_rfl) (by kernel_rfl) (by kernel_rfl) (e := Extern.SlicesOverlaps.overlaps #[22, 22] #[4]) (by kernel_rfl),
            Lib.run_overlaps_apart w 22 4 3 Try.underlying22 1 hsz' ⟨g2, 0, none⟩ ⟨g, (i + 1) * 1, none⟩ 1 c2 lb cb hg2 3 3 cur2.size cur.size (by simp [World.shape?, hh2]) (by simp [World.shape?, hh]) (by omega) (blk_frozen hh2 _) (blk_frozen hh2 _)]
          rfl
        have hbr : decide ((c : Int) < (l0.length : Int) + 1) = false := decide_eq_false (by omega)
        have hcf1 := hcf
        rw [if_neg (show ¬ c = i by omega), show (some (⟨g, 0, none⟩ : Addr)).map (·.add (i * 1)) = some ⟨g, i * 1, none⟩ from by rw [Option.map_some, add_plain]] at hcf1
        have hct : ∀ W : World, (Instr.slice 22 (.slice (some ⟨g, 0, none⟩) l0.length c) none (some (.int .i64 ((l0.length : Int) + 1))) none).run Try.prog W = .ok (.slice (some ⟨g, 0, none⟩) (l0.length + 1) c) W := by
          intro W
          have hel : Try.prog.elem 22 = 3 := by simp [Program.elem, Try.underlying22]
          have hu : Try.prog.underlying 22 = some (.slice (Try.prog.elem 22)) := by rw [hel]; exact Try.underlying22
          rw [run_slice_h W 22 (some ⟨g, 0, none⟩) l0.length c hu .i64 ((l0.length : Int) + 1) (by omega) (by omega), hel]
          simp [sizeOf, typeInfo, hi0, sliced, Result.andThen, add_plain]
        have hcf2 := cut_from (P := Try.prog) 22 3 .i64 Try.underlying22 hi0 1 hsz0 (some ⟨g, 0, none⟩) (l0.length + 1) c ((i : Int) + 1) (by omega) (by omega)
        rw [show ((i : Int) + 1).toNat = i + 1 by omega, if_neg (show ¬ c = i + 1 by omega), show (some (⟨g, 0, none⟩ : Addr)).map (·.add ((i + 1) * 1)) = some ⟨g, (i + 1) * 1, none⟩ from by rw [Option.map_some, add_plain]] at hcf2
        have hcf3 := cut_from (P := Try.prog) 22 3 .i64 Try.underlying22 hi0 1 hsz0 (some ⟨g, 0, none⟩) (l0.length + 1) c (i : Int) (by omega) (by omega)
        rw [Int.toNat_natCast, if_neg (show ¬ c = i by omega), show (some (⟨g, 0, none⟩ : Addr)).map (·.add (i * 1)) = some ⟨g, i * 1, none⟩ from by rw [Option.map_some, add_plain]] at hcf3
        have hdl : (in0.drop (i * 1)).length = (l0.length - i) * 1 := by rw [List.length_drop, hl0, Nat.sub_mul]
        have hcell : ∀ (W : World), W.heap[g]? = w.heap[g]? → ∀ j, j < c * 1 → (W.cell? ⟨g, j, none⟩).isSome = true := fun W hW j hj => by
          rw [cell_of_row W g j cur 3 (0, 0) (hW.trans hh), Array.getElem?_eq_getElem (by omega)]
          rfl
        have hcp1 : ∀ ty, (Builtin.copy_ #[22, 22] ty #[.slice (some ⟨g, (i + 1) * 1, none⟩) (l0.length + 1 - (i + 1)) (c - (i + 1)), .slice (some ⟨g, i * 1, none⟩) (l0.length + 1 - i) (c - i)]).run Try.prog w.drew = .ok (goInt ((l0.length - i : Nat) : Int)) (w.drew.setCells g ((i + 1) * 1) (in0.drop (i * 1))) := fun ty =>
          run_copy_sz w.drew 22 22 ty 3 g ((i + 1) * 1) (l0.length + 1 - (i + 1)) (c - (i + 1)) ⟨g, i * 1, none⟩ (l0.length + 1 - i) (c - i) 1 (l0.length - i) (in0.drop (i * 1)) Try.underlying22 hsz (by simp only [Nat.min_def]; split <;> omega) hdl
            (fun j v hj => by rw [add_at]; exact hc0' (i * 1 + j) v (by rwa [List.getElem?_drop] at hj))
            (fun j hj => hcell w.drew rfl _ (by omega)) (fun j hj => blk_frozen (w := w.drew) hh _) (fun v hv => h1c v (List.mem_of_mem_drop hv))
        obtain ⟨W1, hW1⟩ : ∃ W1, W1 = w.drew.setCells g ((i + 1) * 1) (in0.drop (i * 1)) := ⟨_, rfl⟩
        obtain ⟨cur1, e1, e2, e3⟩ := setCells_row (in0.drop (i * 1)) ((i + 1) * 1) w.drew cur hh (by omega)
        have f1 : ∀ k, k ≠ g → W1.heap[k]? = w.heap[k]? := fun k hk => by rw [hW1]; exact setCells_far (w := w.drew) _ _ k hk
        obtain ⟨s1, s2, s3, s4⟩ := setCells_same g (in0.drop (i * 1)) ((i + 1) * 1) w.drew
        rw [← hW1] at hcp1 e1 s1 s2 s3 s4
        have hcp2 : ∀ ty, (Builtin.copy_ #[22, 22] ty #[.slice (some ⟨g, i * 1, none⟩) (l0.length + 1 - i) (c - i), .slice (some ⟨g2, 0, none⟩) 1 c2]).run Try.prog W1 = .ok (goInt 1) (W1.setCells g (i * 1) in2) := fun ty =>
          run_copy_sz W1 22 22 ty 3 g (i * 1) (l0.length + 1 - i) (c - i) ⟨g2, 0, none⟩ 1 c2 1 1 in2 Try.underlying22 hsz (by simp only [Nat.min_def]; split <;> omega) hl2
            (fun j v hj => by
              rw [add_plain]
              have := hc2' j v hj
              simp only [World.cell?] at this ⊢
              rw [f1 g2 hg2]
              exact this)
            (fun j hj => by rw [cell_of_row W1 g _ cur1 3 (0, 0) e1, Array.getElem?_eq_getElem (by omega)]; rfl) (fun j hj => blk_frozen e1 _) h1v
        obtain ⟨W2, hW2⟩ : ∃ W2, W2 = W1.setCells g (i * 1) in2 := ⟨_, rfl⟩
        obtain ⟨cur3, e4, e5, e6⟩ := setCells_row in2 (i * 1) W1 cur1 e1 (by omega)
        obtain ⟨s5, s6, s7, s8⟩ := setCells_same g in2 (i * 1) W1
        have f2 : ∀ k, k ≠ g → W2.heap[k]? = w.heap[k]? := fun k hk => by rw [hW2, setCells_far (w := W1) _ _ k hk]; exact f1 k hk
        rw [← hW2] at hcp2 e4 s5 s6 s7 s8
        have hcl : cur.toList.length = cur.size := Array.length_toList
        have hfin := cells_ins (z := 1) (n := l0.length) (i := i) (cur := cur.toList) (ins := in0) (v := in2) hi hl2 ht (by omega) e3 e6 (by omega)
        have hlen : (l0.take i ++ [x] ++ l0.drop i).length = l0.length + 1 := by simp; omega
        have HR := Aside0.mk (show Kd.R (Kd.int .i64) 3 W2 w0.heap.size (fun k_ => ((P0_ k_ ∨ P2_ k_) ∨ w.heap.size ≤ k_)) (.slice (some ⟨g, 0, none⟩) (l0.length + 1) c) (l0.take i ++ [x] ++ l0.drop i) from by
          have h := R_ofcells (d := (Kd.int .i64)) (e := 3) (base := w0.heap.size) (g := g) (cap := c) (W := W2) (ok := fun k_ => ((P0_ k_ ∨ P2_ k_) ∨ w.heap.size ≤ k_)) slices_Insert_int_int_flat hrall hb e4 (by rw [hlen]; exact hroom) HCM.out (by rw [e5, e2]; exact hcs4) (by rw [hlen]; exact hfin) (.inl (.inl (hok0 g rfl)))
          rw [hlen] at h
          exact h)
        have hsize : W2.heap.size = w.heap.size := by rw [s8, s4]; rfl
        have HF := Aside0.mk f2
        have HK := Aside0.mk (show Kept w W2 (fun k_ => P0_ k_ ∨ P2_ k_) from ⟨by rw [hsize]; exact Nat.le_refl _, fun k _ hS => f2 k (fun e => hS (.inl (by rw [e]; exact hok0 g rfl)))⟩)
        have HB := Aside0.mk (show Below w0.heap.size w0 W2 from ⟨by rw [s5, s1]; exact hB.os, by rw [s6, s2]; exact hB.tape, by rw [s7, s3]; exact hB.output, by rw [hsize]; exact hB.size, fun k hk => (f2 k (by omega)).trans (hB.block k hk)⟩)
        clear hown0 hown2 hr0 hr2 hok0 hok2 hh hh2 ht ht2 hrall hfin e1 e2 e3 e4 e5 e6 s1 s2 s3 s4 s5 s6 s7 s8 f1 f2 hsize hcell h1c h1v hc0' hc2' hC0 hC2 hB hp0_2 hp2_0 hlen hcl hdl hcf hW1 hW2 hl0 hl2 hin2
        have hw1 : wrap64 ((l0.length : Int) + 1) = (l0.length : Int) + 1 := wrap_suc _ hc3
        have hw2 : wrap64 ((i : Int) + 1) = (i : Int) + 1 := wrap_suc _ (Nat.lt_trans hlt hc3)
        have hw1' : IntKind.i64.wrap ((l0.length : Int) + 1) = (l0.length : Int) + 1 := (i64_w _).trans hw1
        have hw2' : IntKind.i64.wrap ((i : Int) + 1) = (i : Int) + 1 := (i64_w _).trans hw2
        simp only [Nat.mul_one] at hov hcp1 hcp2
        go_enter Try.func32, Try.ntmps32
        go_wp2_with (simp only [hov])
        go_region_law (refine step_copy_known rfl _ _ 22 22 rfl _ _ (by simp [Act.eval, Act.put]) (by simp [Act.eval, Act.put]) (hcp1 _) ?_)
        go_wp2
        go_ret
        exact ⟨_, rfl, HR.out, HB.out, HK.out⟩
      · have hrm : c < l0.length + 1 := by omega
        have hpos : 0 < l0.length + 1 - i := by omega
        have hct : ∀ W : World, (Instr.slice 22 (.slice (some ⟨g, 0, none⟩) l0.length c) none (some (.int .i64 (i : Int))) none).run Try.prog W = .ok (.slice (some ⟨g, 0, none⟩) i c) W := by
          have := cut_to (P := Try.prog) 22 3 .i64 Try.underlying22 hi0 (some ⟨g, 0, none⟩) l0.length c (i : Int) (by omega) (by omega) hnc
          simpa only [Int.toNat_natCast] using this
        have hcf1 := hcf
        rw [if_neg (show ¬ c = i by omega), show (some (⟨g, 0, none⟩ : Addr)).map (·.add (i * 1)) = some ⟨g, i * 1, none⟩ from by rw [Option.map_some, add_plain]] at hcf1
        have hdl : (in0.drop (i * 1)).length = (l0.length - i) * 1 := by rw [List.length_drop, hl0, Nat.sub_mul]
        have htl : (in0.take (i * 1)).length = i * 1 := by rw [List.length_take, hl0]; omega
        have hold : (Builtin.firstCells i0.size i (.slice (some ⟨g, 0, none⟩) i c)).run Try.prog w.drew = .ok (in0.take (i * 1)).toArray w.drew := by
          rw [hsz0]
          exact run_firstCells_some w.drew 1 i ⟨g, 0, none⟩ i c (in0.take (i * 1)) htl (fun j v hj => by
            rw [add_plain]
            rw [List.getElem?_take] at hj
            split at hj
            · exact hc0' j v hj
            · cases hj)
        have hik : i + (l0.length + 1 - i) = l0.length + 1 := by omega
        have hrz0 := fun ty => Lib.run_append_grow_zeros (P := Try.prog) w 22 3 ty 3 i0 _ .i64 .i64 Try.underlying22 Try.underlying3 hi0 HZ.out (some ⟨g, 0, none⟩) i c (in0.take (i * 1)) hold (l0.length + 1 - i) hpos (by omega) (by omega) (by omega) (by rw [HBY.out]; omega) (by rw [HBY.out, hik]; exact growslice_fits hrm (by omega))
        rw [hik] at hrz0
        rw [show ((l0.length + 1 - i : Nat) : Int) = (l0.length : Int) + 1 - (i : Int) by omega] at hrz0
        obtain ⟨G, hG⟩ : ∃ G, G = grownCap w (l0.length + 1) c 3 := ⟨_, rfl⟩
        obtain ⟨ROW, hROW⟩ : ∃ ROW : Array Value, ROW = (in0.take (i * 1)).toArray ++ Builtin.zeroCells ((.int .i64 0) : Value).cells (l0.length + 1 - i) ++ Builtin.zeroCells ((.int .i64 0) : Value).cells (grownCap w (l0.length + 1) c 3 - (l0.length + 1)) := ⟨_, rfl⟩
        have hGn : l0.length + 1 ≤ G := by rw [hG]; exact grownCap_ge w _ _ _
        have hGm : G ≤ maxLen := by rw [hG]; exact grownCap_le_maxLen w _ _ _ (by unfold maxLen; omega)
        have hRs : ROW.size = G * 1 := by
          rw [hROW, hG]
          simp only [Array.size_append, size_zeroCells, List.size_toArray, htl]
          have := grownCap_ge w (l0.length + 1) c 3
          show i * 1 + (l0.length + 1 - i) * 1 + (grownCap w (l0.length + 1) c 3 - (l0.length + 1)) * 1 = _
          omega
        have hRt : ROW.toList.take (i * 1) = in0.take (i * 1) := by
          rw [hROW]
          simp only [Array.toList_append, List.append_assoc]
          rw [List.take_append_of_le_length (by rw [htl]; exact Nat.le_refl _), List.take_of_length_le (by rw [htl]; exact Nat.le_refl _)]
        rw [← hROW, ← hG] at hrz0
        have HGM := Aside0.mk hGm
        clear hGm
        obtain ⟨W1, hW1⟩ : ∃ W1, W1 = w.drew.alloc (.cells ROW 3) := ⟨_, rfl⟩
        rw [← hW1] at hrz0
        have n1 : W1.heap[w.heap.size]? = some (.cells ROW 3 (0, 0)) := by rw [hW1]; exact heap_alloc_new w.drew _
        have n2 : ∀ k, k < w.heap.size → W1.heap[k]? = w.heap[k]? := fun k hk => by rw [hW1]; exact heap_alloc_old w.drew _ hk
        have n3 : W1.heap.size = w.heap.size + 1 := by rw [hW1]; simp
        have n4 : W1.os = w.os ∧ W1.tape = w.tape ∧ W1.output = w.output := by rw [hW1]; exact ⟨rfl, rfl, rfl⟩
        have hcf2 := cut_from (P := Try.prog) 22 3 .i64 Try.underlying22 hi0 1 hsz0 (some ⟨w.heap.size, 0, none⟩) (l0.length + 1) G (i : Int) (by omega) (by omega)
        rw [Int.toNat_natCast, if_neg (show ¬ G = i by omega), show (some (⟨w.heap.size, 0, none⟩ : Addr)).map (·.add (i * 1)) = some ⟨w.heap.size, i * 1, none⟩ from by rw [Option.map_some, add_plain]] at hcf2
        have hcf3 := cut_from (P := Try.prog) 22 3 .i64 Try.underlying22 hi0 1 hsz0 (some ⟨w.heap.size, 0, none⟩) (l0.length + 1) G ((i : Int) + 1) (by omega) (by omega)
        rw [show ((i : Int) + 1).toNat = i + 1 by omega, if_neg (show ¬ G = i + 1 by omega), show (some (⟨w.heap.size, 0, none⟩ : Addr)).map (·.add ((i + 1) * 1)) = some ⟨w.heap.size, (i + 1) * 1, none⟩ from by rw [Option.map_some, add_plain]] at hcf3
        have hcp1 : ∀ ty, (Builtin.copy_ #[22, 22] ty #[.slice (some ⟨w.heap.size, i * 1, none⟩) (l0.length + 1 - i) (G - i), .slice (some ⟨g2, 0, none⟩) 1 c2]).run Try.prog W1 = .ok (goInt 1) (W1.setCells w.heap.size (i * 1) in2) := fun ty =>
          run_copy_sz W1 22 22 ty 3 w.heap.size (i * 1) (l0.length + 1 - i) (G - i) ⟨g2, 0, none⟩ 1 c2 1 1 in2 Try.underlying22 hsz (by simp only [Nat.min_def]; split <;> omega) hl2
            (fun j v hj => by
              rw [add_plain]
              have := hc2' j v hj
              simp only [World.cell?] at this ⊢
              rw [n2 g2 hg2l]
              exact this)
            (fun j hj => by rw [cell_of_row W1 w.heap.size _ ROW 3 (0, 0) n1, Array.getElem?_eq_getElem (by omega)]; rfl) (fun j hj => blk_frozen n1 _) h1v
        obtain ⟨W2, hW2⟩ : ∃ W2, W2 = W1.setCells w.heap.size (i * 1) in2 := ⟨_, rfl⟩
        obtain ⟨cur1, e1, e2, e3⟩ := setCells_row in2 (i * 1) W1 ROW n1 (by omega)
        have f1 : ∀ k, k < w.heap.size → W2.heap[k]? = w.heap[k]? := fun k hk => by rw [hW2, setCells_far (w := W1) _ _ k (by omega)]; exact n2 k hk
        obtain ⟨s1, s2, s3, s4⟩ := setCells_same w.heap.size in2 (i * 1) W1
        rw [← hW2] at hcp1 e1 s1 s2 s3 s4
        have hcp2 : ∀ ty, (Builtin.copy_ #[22, 22] ty #[.slice (some ⟨w.heap.size, (i + 1) * 1, none⟩) (l0.length + 1 - (i + 1)) (G - (i + 1)), .slice (some ⟨g, i * 1, none⟩) (l0.length - i) (c - i)]).run Try.prog W2.drew = .ok (goInt ((l0.length - i : Nat) : Int)) (W2.drew.setCells w.heap.size ((i + 1) * 1) (in0.drop (i * 1))) := fun ty =>
          run_copy_sz W2.drew 22 22 ty 3 w.heap.size ((i + 1) * 1) (l0.length + 1 - (i + 1)) (G - (i + 1)) ⟨g, i * 1, none⟩ (l0.length - i) (c - i) 1 (l0.length - i) (in0.drop (i * 1)) Try.underlying22 hsz (by simp only [Nat.min_def]; split <;> omega) hdl
            (fun j v hj => by
              rw [add_at]
              have := hc0' (i * 1 + j) v (by rwa [List.getElem?_drop] at hj)
              have h2 : W2.heap[g]? = w.heap[g]? := f1 g hgl
              show W2.cell? _ = _
              simp only [World.cell?] at this ⊢
              rw [h2]
              exact this)
            (fun j hj => by
              show (W2.cell? _).isSome = true
              rw [cell_of_row W2 w.heap.size _ cur1 3 (0, 0) e1, Array.getElem?_eq_getElem (by omega)]
              rfl) (fun j hj => blk_frozen (w := W2.drew) e1 _) (fun v hv => h1c v (List.mem_of_mem_drop hv))
        obtain ⟨W3, hW3⟩ : ∃ W3, W3 = W2.drew.setCells w.heap.size ((i + 1) * 1) (in0.drop (i * 1)) := ⟨_, rfl⟩
        obtain ⟨cur3, e4, e5, e6⟩ := setCells_row (in0.drop (i * 1)) ((i + 1) * 1) W2.drew cur1 e1 (by omega)
        obtain ⟨s5, s6, s7, s8⟩ := setCells_same w.heap.size (in0.drop (i * 1)) ((i + 1) * 1) W2.drew
        have f2 : ∀ k, k < w.heap.size → W3.heap[k]? = w.heap[k]? := fun k hk => by rw [hW3, setCells_far (w := W2.drew) _ _ k (by omega)]; exact f1 k hk
        rw [← hW3] at hcp2 e4 s5 s6 s7 s8
        have hcl : ROW.toList.length = ROW.size := Array.length_toList
        have hfin := cells_grow (z := 1) (n := l0.length) (i := i) (row := ROW.toList) (ins := in0) (v := in2) hi hl2 hl0 hRt (by omega) e3 e6
        have hlen : (l0.take i ++ [x] ++ l0.drop i).length = l0.length + 1 := by simp; omega
        have HR := Aside0.mk (show Kd.R (Kd.int .i64) 3 W3 w0.heap.size (fun k_ => ((P0_ k_ ∨ P2_ k_) ∨ w.heap.size ≤ k_)) (.slice (some ⟨w.heap.size, 0, none⟩) (l0.length + 1) G) (l0.take i ++ [x] ++ l0.drop i) from by
          have h := R_ofcells (d := (Kd.int .i64)) (e := 3) (base := w0.heap.size) (g := w.heap.size) (cap := G) (W := W3) (ok := fun k_ => ((P0_ k_ ∨ P2_ k_) ∨ w.heap.size ≤ k_)) slices_Insert_int_int_flat hrall hB.size e4 (by rw [hlen]; exact hGn) HGM.out (by rw [e5, e2]; exact hRs) (by rw [hlen]; exact hfin) (.inr (Nat.le_refl _))
          rw [hlen] at h
          exact h)
        have hsize : W3.heap.size = w.heap.size + 1 := by rw [s8]; show W2.heap.size = _; rw [s4, n3]
        have HK := Aside0.mk (show Kept w W3 (fun k_ => P0_ k_ ∨ P2_ k_) from ⟨by rw [hsize]; omega, fun k hk _ => f2 k hk⟩)
        have HB := Aside0.mk (show Below w0.heap.size w0 W3 from ⟨by rw [s5]; show W2.os = _; rw [s1, n4.1]; exact hB.os, by rw [s6]; show W2.tape = _; rw [s2, n4.2.1]; exact hB.tape, by rw [s7]; show W2.output = _; rw [s3, n4.2.2]; exact hB.output, by rw [hsize]; have := hB.size; omega, fun k hk => (f2 k (by have := hB.size; omega)).trans (hB.block k hk)⟩)
        have hbr : decide ((c : Int) < (l0.length : Int) + 1) = true := decide_eq_true (by omega)
        have hw3 : wrap64 ((l0.length : Int) + 1 - (i : Int)) = (l0.length : Int) + 1 - (i : Int) := wrap_dif _ _ hc3 hi
        have hw3' : IntKind.i64.wrap ((l0.length : Int) + 1 - (i : Int)) = (l0.length : Int) + 1 - (i : Int) := (i64_w _).trans hw3
        have HRZ := Aside0.mk hrz0
        clear hrz0 hown0 hown2 hr0 hr2 hok0 hok2 hh hh2 ht ht2 hrall hfin e1 e2 e3 e4 e5 e6 s1 s2 s3 s4 s5 s6 s7 s8 f1 f2 n1 n2 n3 n4 hsize h1c h1v hc0' hc2' hC0 hC2 hB hp0_2 hp2_0 hlen hcl hdl htl hcf hW1 hW2 hW3 hl0 hl2 hin2 hold hik hROW hRs hRt hG
        have hw1 : wrap64 ((l0.length : Int) + 1) = (l0.length : Int) + 1 := wrap_suc _ hc3
        have hw2 : wrap64 ((i : Int) + 1) = (i : Int) + 1 := wrap_suc _ (Nat.lt_trans hlt hc3)
        have hw1' : IntKind.i64.wrap ((l0.length : Int) + 1) = (l0.length : Int) + 1 := (i64_w _).trans hw1
        have hw2' : IntKind.i64.wrap ((i : Int) + 1) = (i : Int) + 1 := (i64_w _).trans hw2
        simp only [Nat.mul_one] at hcp1 hcp2
        have hrz := HRZ.out
        go_enter Try.func32, Try.ntmps32
        go_wp2_with (at_builtin; refine Lib.wpList_append_run _ rfl _ _ _ _ rfl _ _ rfl rfl _ _ (hrz _) ?_)
        go_region_law (refine step_copy_known rfl _ _ 22 22 rfl _ _ (by simp [Act.eval, Act.put]) (by simp [Act.eval, Act.put]) (hcp2 _) ?_)
        go_wp2
        go_ret
        exact ⟨_, rfl, HR.out, HB.out, HK.out⟩
  · cases h

/-! ### tabs_Stops_Set: function 10 -/
def tabs_Stops_Set.f (k : Nat) (a0_0 : Int) (l0_1 : List Int) (a1 : Int) : Option (Int × List Int) := (slices_BinarySearch_int_int.f k l0_1 a1).bind fun bt117 => (if a1 ≥ 0 then (if a1 < a0_0 then (if bt117.2 = true then (some (a0_0, l0_1)) else ((slices_Insert_int_int.f l0_1 bt117.1 (([a1] : List Int))).bind fun t122 => (some (a0_0, t122)))) else (some (a0_0, l0_1))) else (some (a0_0, l0_1)))
theorem tabs_Stops_Set.mono : ∀ a0 a1 a2 k, LeO (tabs_Stops_Set.f k a0 a1 a2) (tabs_Stops_Set.f (k + 1) a0 a1 a2) := by
  intro a0 a1 a2 k
  unfold tabs_Stops_Set.f
  repeat' first
      | (with_reducible exact slices_BinarySearch_int_int.mono _ _ _)
      | (with_reducible exact LeO.refl _)
      | (with_reducible exact LeO.none _)
      | (with_reducible refine LeO.ite ?_ ?_)
      | (with_reducible refine LeO.bind ?_ (fun _ => ?_))
      | exact slices_BinarySearch_int_int.mono _ _ _
      | exact LeO.none _
      | refine LeO.ite ?_ ?_
      | refine LeO.bind ?_ (fun _ => ?_)
set_option maxHeartbeats 8000000 in
set_option maxRecDepth 100000 in
theorem tabs_Stops_Set.calls (k : Nat) (g : Nat) (a0_0 : Int) (P0_1_ : Nat → Prop) (u9000_ : Value) (l0_1 : List Int) (a1 : Int) (r1 : Int) (r2 : List Int) (w0 w : World) (hb : w.heap[g]? = some (.cells #[.int .i64 a0_0, u9000_] 66 (0, 0))) (hg : w0.heap.size ≤ g) (hB : Below w0.heap.size w0 w) (ho0_1 : Kd.R (Kd.int .i64) 3 w w0.heap.size P0_1_ u9000_ l0_1) (h : tabs_Stops_Set.f k a0_0 l0_1 a1 = some (r1, r2)) :
    Calls Try.prog 10 #[.pointer (some ⟨g, 0, none⟩), .int .i64 a1] w fun e w' => ∃ v1_ : Value, Aside0 (e = .returned (.tuple #[]) ∧ Kd.R (Kd.int .i64) 3 w' w0.heap.size (fun k_ => (P0_1_ k_ ∨ w.heap.size ≤ k_)) v1_ r2 ∧ w'.heap[g]? = some (.cells #[.int .i64 r1, v1_] 66 (0, 0)) ∧ Below w0.heap.size w0 w' ∧ Kept w w' (fun k_ => (P0_1_ k_) ∨ k_ = g)) := by
  have HO0_1 := Aside0.mk (show Kd.R (Kd.int .i64) 3 w w0.heap.size (fun k_ => (P0_1_ k_ ∨ w.heap.size ≤ k_)) u9000_ l0_1 from Kd.R_mono ho0_1 (fun k_ hk => (.inl hk)))
  have HK := Aside0.mk (Kept.refl w (fun k_ => (P0_1_ k_) ∨ k_ = g))
  have BK0 := Aside0.mk hb
  have GE0 := Aside0.mk hg
  clear hb hg
  have HW0 := Aside0.mk hB.size
  have HB := Aside0.mk hB
  clear hB
  have H : ((slices_BinarySearch_int_int.f k l0_1 a1).bind fun bt117 => (if a1 ≥ 0 then (if a1 < a0_0 then (if bt117.2 = true then (some (a0_0, l0_1)) else ((slices_Insert_int_int.f l0_1 bt117.1 (([a1] : List Int))).bind fun t122 => (some (a0_0, t122)))) else (some (a0_0, l0_1))) else (some (a0_0, l0_1)))) = some (r1, r2) := h
  clear h
  replace H := Option.bind_eq_some_iff.mp H
  obtain ⟨⟨t117, t118⟩, A30, H⟩ := H
  replace H : (if a1 ≥ 0 then (if a1 < a0_0 then (if t118 = true then (some (a0_0, l0_1)) else ((slices_Insert_int_int.f l0_1 t117 (([a1] : List Int))).bind fun t122 => (some (a0_0, t122)))) else (some (a0_0, l0_1))) else (some (a0_0, l0_1))) = some (r1, r2) := H
  have A3 := Aside0.mk A30
  clear A30
  by_cases c4 : a1 ≥ 0
  · rw [if_pos c4] at H
    have c4b0 : decide (0 ≤ a1) = true := decide_eq_true c4
    clear c4
    by_cases c5 : a1 < a0_0
    · rw [if_pos c5] at H
      have c5b0 : decide (a1 < a0_0) = true := decide_eq_true c5
      clear c5
      by_cases c6 : t118 = true
      · subst c6
        have H1 : (some (a0_0, l0_1)) = some (r1, r2) := by rw [if_pos rfl] at H; exact H
        clear H
        have H := H1
        clear H1
        simp only [Option.some.injEq, Prod.mk.injEq] at H
        obtain ⟨rfl, rfl⟩ := H
        have hcz7_0 : w.cell? ⟨g, 0, none⟩ = some (.int .i64 a0_0) := (blk_cell BK0.out 0).trans rfl
        have hcz7_1 : w.cell? ⟨g, 1, none⟩ = some (u9000_) := (blk_cell BK0.out 1).trans rfl
        have hfz7_0 := blk_frozen BK0.out 0
        have hfz7_1 := blk_frozen BK0.out 1
        obtain ⟨Ao8, co8, eo8⟩ := Kd.R_slice HO0_1.out
        subst eo8
        go_enter Try.func10, Try.ntmps10
        go_wp2_with (first | ((with_reducible refine gate_callee (f := 31) rfl ?_); refine goesL_ (some 12) rfl rfl Try.func31 (by kernel_rfl) rfl #[.slice Ao8 l0_1.length co8, .int .i64 a1] rfl (by (try simp only [List.map_toArray, List.map_cons, List.map_nil]); first | done | rfl | (simp only [List.length_drop, List.length_take]; rfl)) ?_; (with_reducible refine (slices_BinarySearch_int_int.calls k _ _ l0_1 a1 t117 true _ ?side1 ?side2 A3.out).mono ?_); (case side1 => repeat (first | exact (Kd.R_reads' HO0_1.out).2.2 | (with_reducible refine Kd.C_alloc ?_ _) | (with_reducible refine Kd.C_drewN ?_ _) | (with_reducible refine Kd.C_drew ?_))); (case side2 => exact (Kd.R_reads' HO0_1.out).2.1); rintro e w' ⟨rfl, ⟨nd, rfl⟩⟩; refine ⟨_, rfl, ?_⟩))
        first | ((try simp only [Exit.inBlock, Exit.then]); refine bodyPost_ret (results_none rfl _ _ _) rfl ?_) | go_end0
        exact ⟨(.slice Ao8 l0_1.length co8), by first | rfl | (simp [errW_none, errW_some, ptrW_true, ptrW_false] <;> rfl) | (simp [*, errW_none, errW_some, ptrW_true, ptrW_false] <;> rfl), by (with_reducible repeat (first | apply Kd.R_alloc | apply Kd.R_drewN | apply Kd.R_drew)); exact HO0_1.out, (by (with_reducible repeat (first | refine blk_drewN ?_ _ | refine blk_drew ?_ | refine blk_alloc ?_ _)); exact BK0.out), by repeat (first | (with_reducible first | exact HB.out | apply below_alloc | apply pw_below_drewN | apply below_drew1 | refine below_set ?_ GE0.out) | exact HB.out), by repeat (first | (with_reducible first | exact HK.out | apply Kept.alloc | apply Kept.drewN | apply Kept.drew | refine Kept.setCell ?_ (.inl (.inr rfl)) _) | exact HK.out)⟩
      · replace c6 := Bool.eq_false_iff.mpr c6
        subst c6
        have H1 : ((slices_Insert_int_int.f l0_1 t117 (([a1] : List Int))).bind fun t122 => (some (a0_0, t122))) = some (r1, r2) := by rw [if_neg (show ¬ (false = true) by decide)] at H; exact H
        clear H
        have H := H1
        clear H1
        obtain ⟨y119, hy119⟩ : ∃ y_ : List Int, y_ = (([a1] : List Int)) := ⟨_, rfl⟩
        replace H : ((slices_Insert_int_int.f l0_1 t117 y119).bind fun t122 => (some (a0_0, t122))) = some (r1, r2) := by first | (rw [hy119]; with_reducible exact H) | (have H2_ := (Option.bind_some _ _).symm.trans H; rw [hy119]; with_reducible exact H2_) | (have H2_ := (Option.bind_some _ _).symm.trans H; with_reducible exact H2_) | with_reducible exact H | (rw [hy119]; exact H) | exact H
        have Ny119 := Aside0.mk hy119
        clear hy119
        replace H := Option.bind_eq_some_iff.mp H
        obtain ⟨t122, A90, H⟩ := H
        replace H : (some (a0_0, t122)) = some (r1, r2) := H
        have A9 := Aside0.mk A90
        clear A90
        simp only [Option.some.injEq, Prod.mk.injEq] at H
        obtain ⟨rfl, rfl⟩ := H
        have hcz10_0 : w.cell? ⟨g, 0, none⟩ = some (.int .i64 a0_0) := (blk_cell BK0.out 0).trans rfl
        have hcz10_1 : w.cell? ⟨g, 1, none⟩ = some (u9000_) := (blk_cell BK0.out 1).trans rfl
        have hfz10_0 := blk_frozen BK0.out 0
        have hfz10_1 := blk_frozen BK0.out 1
        obtain ⟨Ao11, co11, eo11⟩ := Kd.R_slice HO0_1.out
        subst eo11
        go_enter Try.func10, Try.ntmps10
        go_wp2_with (first | ((with_reducible refine gate_callee (f := 31) rfl ?_); refine goesL_ (some 12) rfl rfl Try.func31 (by kernel_rfl) rfl #[.slice Ao11 l0_1.length co11, .int .i64 a1] rfl (by (try simp only [List.map_toArray, List.map_cons, List.map_nil]); first | done | rfl | (simp only [List.length_drop, List.length_take]; rfl)) ?_; (with_reducible refine (slices_BinarySearch_int_int.calls k _ _ l0_1 a1 t117 false _ ?side1 ?side2 A3.out).mono ?_); (case side1 => repeat (first | exact (Kd.R_reads' HO0_1.out).2.2 | (with_reducible refine Kd.C_alloc ?_ _) | (with_reducible refine Kd.C_drewN ?_ _) | (with_reducible refine Kd.C_drew ?_))); (case side2 => exact (Kd.R_reads' HO0_1.out).2.1); rintro e w' ⟨rfl, ⟨nd, rfl⟩⟩; refine ⟨_, rfl, ?_⟩) | ((with_reducible refine gate_dst (N := 36) rfl ?_); refine Kd.R_lit (Kd.int .i64) _ 3 ?hg (N := 36) ?hd (xs := ([a1] : List Int)) (inner := [.int .i64 a1]) (ok := fun _ => True) (okp := fun _ => True) ?hr ?hp (fun _ hk => hk) trivial (Below.refl _ _) (Nat.le_refl _) (by simp) ?_; (case hd => rfl); (case hg => rfl); (case hr => first | (go_simp; done) | (go_simp; rfl)); (case hp => exact (Reps.one (show Kd.M (Kd.int .i64) _ _ _ a1 [.int .i64 a1] from rfl) (Reps.none _ _))); intro v120 w12 ho13 hb hg_ hnew_; clear hg_ hnew_; (first | rw [← Ny119.out] at ho13 | (simp only [Int.reduceToNat] at ho13; rw [← Ny119.out] at ho13)); have n0_ := Aside0.mk (Kd.R_elder' (by (with_reducible repeat (first | apply Kd.R_alloc | apply Kd.R_drewN | apply Kd.R_drew)); exact HO0_1.out) (Kd.R_base ho13) hb); have n1_ := Aside0.mk (Kd.R_lower (Kd.R_new' (Kd.R_newM (M := fun k_ => (P0_1_ k_ ∨ w.heap.size ≤ k_)) ho13 (by first | exact HK.out.1 | exact (show Kept w _ (fun k_ => (P0_1_ k_) ∨ k_ = g) from by repeat (first | (with_reducible first | exact HK.out | apply Kept.alloc | apply Kept.drewN | apply Kept.drew | refine Kept.setCell ?_ (.inl (.inr rfl)) _) | exact HK.out)).1) (fun k_ h_ => .inr h_)) (Kd.R_lt (by (with_reducible repeat (first | apply Kd.R_alloc | apply Kd.R_drewN | apply Kd.R_drew)); exact HO0_1.out))) (below_size (by repeat (first | (with_reducible first | exact HB.out | apply below_alloc | apply pw_below_drewN | apply below_drew1 | refine below_set ?_ GE0.out) | exact HB.out)))); have n2_ := Aside0.mk (blk_below (g := g) (o := .cells #[.int .i64 a0_0, .slice Ao11 l0_1.length co11] 66 (0, 0)) (by (with_reducible repeat (first | refine blk_drewN ?_ _ | refine blk_drew ?_ | refine blk_alloc ?_ _)); exact BK0.out) hb); have n3_ := Aside0.mk (Kept.below (S := (fun k_ => (P0_1_ k_) ∨ k_ = g)) (by repeat (first | (with_reducible first | exact HK.out | apply Kept.alloc | apply Kept.drewN | apply Kept.drew | refine Kept.setCell ?_ (.inl (.inr rfl)) _) | exact HK.out)) hb); have n4_ := Aside0.mk (below_step (by repeat (first | (with_reducible first | exact HB.out | apply below_alloc | apply pw_below_drewN | apply below_drew1 | refine below_set ?_ GE0.out) | exact HB.out)) hb); clear HO0_1; clear BK0; clear HK; clear HB; have HO0_1 := n0_; have HO121 := n1_; have BK0 := n2_; have HK := n3_; have HB := n4_; clear n0_ n1_ n2_ n3_ n4_; clear hb ho13; obtain ⟨Ao14, co14, eo14⟩ := Kd.R_slice HO121.out; subst eo14) | ((with_reducible refine gate_callee (f := 32) rfl ?_); refine goesL_ (some 37) rfl rfl Try.func32 (by kernel_rfl) rfl #[.slice Ao11 l0_1.length co11, .int .i64 t117, .slice Ao14 y119.length co14] rfl (by (try simp only [List.map_toArray, List.map_cons, List.map_nil]); first | done | rfl | (simp only [List.length_drop, List.length_take]; rfl)) ?_; (with_reducible refine (slices_Insert_int_int.calls (fun k_ => some k_ = (.slice Ao11 l0_1.length co11 : Value).ownBlock) (.slice Ao11 l0_1.length co11) l0_1 t117 (fun k_ => some k_ = (.slice Ao14 y119.length co14 : Value).ownBlock) (.slice Ao14 y119.length co14) y119 t122 w0 _ ?side1 ?side2 ?side3 ?side4 ?side5 A9.out).mono ?_); (case side1 => repeat (first | (with_reducible first | exact HB.out | apply below_alloc | apply pw_below_drewN | apply below_drew1 | refine below_set ?_ GE0.out) | exact HB.out)); (case side2 => exact Kd.R_tight rfl HO0_1.out); (case side3 => exact fun k_ e_ => (HO0_1.out.1 k_ e_.symm).2); (case side4 => exact Kd.R_tight rfl HO121.out); (case side5 => exact fun k_ e_ => (HO121.out.1 k_ e_.symm).2); rintro e w15 ⟨v123, rfl, ho0, hb, hkp⟩; refine ⟨_, rfl, ?_⟩; have n0_ := Aside0.mk (blk_kept (by (with_reducible repeat (first | refine blk_drewN ?_ _ | refine blk_drew ?_ | refine blk_alloc ?_ _)); exact BK0.out) hkp (fun hs_ => Or.elim hs_ (fun e_ => (fun e_ => (Kd.R_ne HO0_1.out BK0.out (by decide)) e_) e_) (fun e_ => (fun e_ => (Kd.R_ne HO121.out BK0.out (by decide)) e_) e_))); have n1_ := Aside0.mk (Kd.R_mono (ok' := fun k_ => (P0_1_ k_ ∨ w.heap.size ≤ k_)) ho0 (fun k_ hk_ => Or.elim hk_ (fun hs_ => Or.elim hs_ (fun hs_ => (HO0_1.out.1 k_ (hs_).symm).1) (fun hs_ => (HO121.out.1 k_ (hs_).symm).1.1)) (fun hn_ => (.inr (Nat.le_trans (by first | exact HK.out.1 | exact (show Kept w _ (fun k_ => (P0_1_ k_) ∨ k_ = g) from by repeat (first | (with_reducible first | exact HK.out | apply Kept.alloc | apply Kept.drewN | apply Kept.drew | refine Kept.setCell ?_ (.inl (.inr rfl)) _) | exact HK.out)).1) hn_))))); have n2_ := Aside0.mk (Kept.then_ (S := (fun k_ => (P0_1_ k_) ∨ k_ = g)) (by repeat (first | (with_reducible first | exact HK.out | apply Kept.alloc | apply Kept.drewN | apply Kept.drew | refine Kept.setCell ?_ (.inl (.inr rfl)) _) | exact HK.out)) hkp (fun k_ hs_ => Or.elim hs_ (fun e_ => (fun e_ => Or.imp_left Or.inl ((HO0_1.out.1 k_ e_.symm).1)) e_) (fun e_ => (fun e_ => Or.imp_left Or.inl ((HO121.out.1 k_ e_.symm).1.1)) e_))); have n3_ := Aside0.mk (hb); clear BK0; clear HK; clear HB; clear HO0_1; clear HO121; have BK0 := n0_; have HO124 := n1_; have HK := n2_; have HB := n3_; clear n0_ n1_ n2_ n3_; (try clear hb); (try clear hkp); (try clear ho0); obtain ⟨Ao16, co16, eo16⟩ := Kd.R_slice HO124.out; subst eo16; have hcz17_0 : w15.cell? ⟨g, 0, none⟩ = some (.int .i64 a0_0) := (blk_cell BK0.out 0).trans rfl; have hcz17_1 : w15.cell? ⟨g, 1, none⟩ = some (.slice Ao11 l0_1.length co11) := (blk_cell BK0.out 1).trans rfl; have hfz17_0 := blk_frozen BK0.out 0; have hfz17_1 := blk_frozen BK0.out 1))
        first | ((try simp only [Exit.inBlock, Exit.then]); refine bodyPost_ret (results_none rfl _ _ _) rfl ?_) | go_end0
        exact ⟨(.slice Ao16 t122.length co16), by first | rfl | (simp [errW_none, errW_some, ptrW_true, ptrW_false] <;> rfl) | (simp [*, errW_none, errW_some, ptrW_true, ptrW_false] <;> rfl), by (with_reducible repeat (first | apply Kd.R_alloc | apply Kd.R_drewN | apply Kd.R_drew)); exact Kd.R_mono (Kd.R_far (p := ⟨g, 1, none⟩) (Kd.R_types HO124.out BK0.out (by decide)) (fun _ hk => hk.2) (.slice Ao16 t122.length co16)) (fun _ hk => hk.1), (by (with_reducible repeat (first | refine blk_drewN ?_ _ | refine blk_drew ?_ | refine blk_alloc ?_ _)); refine blk_put (cs := #[.int .i64 a0_0, .slice Ao11 l0_1.length co11]) ?_ 1 _ rfl; (with_reducible repeat (first | refine blk_drewN ?_ _ | refine blk_drew ?_ | refine blk_alloc ?_ _)); exact BK0.out), by repeat (first | (with_reducible first | exact HB.out | apply below_alloc | apply pw_below_drewN | apply below_drew1 | refine below_set ?_ GE0.out) | exact HB.out), by repeat (first | (with_reducible first | exact HK.out | apply Kept.alloc | apply Kept.drewN | apply Kept.drew | refine Kept.setCell ?_ (.inl (.inr rfl)) _) | exact HK.out)⟩
    · rw [if_neg c5] at H
      have c5b0 : decide (a1 < a0_0) = false := decide_eq_false c5
      clear c5
      simp only [Option.some.injEq, Prod.mk.injEq] at H
      obtain ⟨rfl, rfl⟩ := H
      have hcz18_0 : w.cell? ⟨g, 0, none⟩ = some (.int .i64 a0_0) := (blk_cell BK0.out 0).trans rfl
      have hcz18_1 : w.cell? ⟨g, 1, none⟩ = some (u9000_) := (blk_cell BK0.out 1).trans rfl
      have hfz18_0 := blk_frozen BK0.out 0
      have hfz18_1 := blk_frozen BK0.out 1
      obtain ⟨Ao19, co19, eo19⟩ := Kd.R_slice HO0_1.out
      subst eo19
      go_enter Try.func10, Try.ntmps10
      go_wp2_with (first | ((with_reducible refine gate_callee (f := 31) rfl ?_); refine goesL_ (some 12) rfl rfl Try.func31 (by kernel_rfl) rfl #[.slice Ao19 l0_1.length co19, .int .i64 a1] rfl (by (try simp only [List.map_toArray, List.map_cons, List.map_nil]); first | done | rfl | (simp only [List.length_drop, List.length_take]; rfl)) ?_; (with_reducible refine (slices_BinarySearch_int_int.calls k _ _ l0_1 a1 t117 t118 _ ?side1 ?side2 A3.out).mono ?_); (case side1 => repeat (first | exact (Kd.R_reads' HO0_1.out).2.2 | (with_reducible refine Kd.C_alloc ?_ _) | (with_reducible refine Kd.C_drewN ?_ _) | (with_reducible refine Kd.C_drew ?_))); (case side2 => exact (Kd.R_reads' HO0_1.out).2.1); rintro e w' ⟨rfl, ⟨nd, rfl⟩⟩; refine ⟨_, rfl, ?_⟩))
      first | ((try simp only [Exit.inBlock, Exit.then]); refine bodyPost_ret (results_none rfl _ _ _) rfl ?_) | go_end0
      exact ⟨(.slice Ao19 l0_1.length co19), by first | rfl | (simp [errW_none, errW_some, ptrW_true, ptrW_false] <;> rfl) | (simp [*, errW_none, errW_some, ptrW_true, ptrW_false] <;> rfl), by (with_reducible repeat (first | apply Kd.R_alloc | apply Kd.R_drewN | apply Kd.R_drew)); exact HO0_1.out, (by (with_reducible repeat (first | refine blk_drewN ?_ _ | refine blk_drew ?_ | refine blk_alloc ?_ _)); exact BK0.out), by repeat (first | (with_reducible first | exact HB.out | apply below_alloc | apply pw_below_drewN | apply below_drew1 | refine below_set ?_ GE0.out) | exact HB.out), by repeat (first | (with_reducible first | exact HK.out | apply Kept.alloc | apply Kept.drewN | apply Kept.drew | refine Kept.setCell ?_ (.inl (.inr rfl)) _) | exact HK.out)⟩
  · rw [if_neg c4] at H
    have c4b0 : decide (0 ≤ a1) = false := decide_eq_false c4
    clear c4
    simp only [Option.some.injEq, Prod.mk.injEq] at H
    obtain ⟨rfl, rfl⟩ := H
    have hcz20_0 : w.cell? ⟨g, 0, none⟩ = some (.int .i64 a0_0) := (blk_cell BK0.out 0).trans rfl
    have hcz20_1 : w.cell? ⟨g, 1, none⟩ = some (u9000_) := (blk_cell BK0.out 1).trans rfl
    have hfz20_0 := blk_frozen BK0.out 0
    have hfz20_1 := blk_frozen BK0.out 1
    obtain ⟨Ao21, co21, eo21⟩ := Kd.R_slice HO0_1.out
    subst eo21
    go_enter Try.func10, Try.ntmps10
    go_wp2_with (first | ((with_reducible refine gate_callee (f := 31) rfl ?_); refine goesL_ (some 12) rfl rfl Try.func31 (by kernel_rfl) rfl #[.slice Ao21 l0_1.length co21, .int .i64 a1] rfl (by (try simp only [List.map_toArray, List.map_cons, List.map_nil]); first | done | rfl | (simp only [List.length_drop, List.length_take]; rfl)) ?_; (with_reducible refine (slices_BinarySearch_int_int.calls k _ _ l0_1 a1 t117 t118 _ ?side1 ?side2 A3.out).mono ?_); (case side1 => repeat (first | exact (Kd.R_reads' HO0_1.out).2.2 | (with_reducible refine Kd.C_alloc ?_ _) | (with_reducible refine Kd.C_drewN ?_ _) | (with_reducible refine Kd.C_drew ?_))); (case side2 => exact (Kd.R_reads' HO0_1.out).2.1); rintro e w' ⟨rfl, ⟨nd, rfl⟩⟩; refine ⟨_, rfl, ?_⟩))
    first | ((try simp only [Exit.inBlock, Exit.then]); refine bodyPost_ret (results_none rfl _ _ _) rfl ?_) | go_end0
    exact ⟨(.slice Ao21 l0_1.length co21), by first | rfl | (simp [errW_none, errW_some, ptrW_true, ptrW_false] <;> rfl) | (simp [*, errW_none, errW_some, ptrW_true, ptrW_false] <;> rfl), by (with_reducible repeat (first | apply Kd.R_alloc | apply Kd.R_drewN | apply Kd.R_drew)); exact HO0_1.out, (by (with_reducible repeat (first | refine blk_drewN ?_ _ | refine blk_drew ?_ | refine blk_alloc ?_ _)); exact BK0.out), by repeat (first | (with_reducible first | exact HB.out | apply below_alloc | apply pw_below_drewN | apply below_drew1 | refine below_set ?_ GE0.out) | exact HB.out), by repeat (first | (with_reducible first | exact HK.out | apply Kept.alloc | apply Kept.drewN | apply Kept.drew | refine Kept.setCell ?_ (.inl (.inr rfl)) _) | exact HK.out)⟩

-- NOT PRINTED: function 72 (slices_IndexFunc_int_int)

/-! ### slices_DeleteFunc_int_int: function 57, with the test 'c >= cols' (by hand) -/
def slices_DeleteFunc_int_int.idx (p : Int → Bool) : List Int → Int → Int
  | [], _ => -1
  | x :: t, i => if p x = true then i else slices_DeleteFunc_int_int.idx p t (i + 1)
theorem slices_DeleteFunc_int_int.idx_none (p : Int → Bool) : ∀ (l : List Int) (i : Int), 0 ≤ i → slices_DeleteFunc_int_int.idx p l i < 0 → l.filter (fun x => !p x) = l
  | [], _, _, _ => rfl
  | x :: t, i, h0, h => by
    unfold slices_DeleteFunc_int_int.idx at h
    split at h
    · omega
    · rename_i hp
      rw [List.filter_cons_of_pos (by simpa using hp), slices_DeleteFunc_int_int.idx_none p t (i + 1) (by omega) h]
theorem slices_DeleteFunc_int_int.idx_m1 (p : Int → Bool) : ∀ (l : List Int) (i : Int), 0 ≤ i → slices_DeleteFunc_int_int.idx p l i < 0 → slices_DeleteFunc_int_int.idx p l i = -1
  | [], _, _, _ => rfl
  | x :: t, i, h0, h => by
    unfold slices_DeleteFunc_int_int.idx at h ⊢
    split at h
    · omega
    · rename_i hp
      rw [if_neg hp]
      exact slices_DeleteFunc_int_int.idx_m1 p t (i + 1) (by omega) h
theorem slices_DeleteFunc_int_int.idx_some (p : Int → Bool) : ∀ (l : List Int) (i : Int), 0 ≤ i → 0 ≤ slices_DeleteFunc_int_int.idx p l i → ∃ k : Nat, slices_DeleteFunc_int_int.idx p l i = i + k ∧ k < l.length ∧ (l.take k).filter (fun x => !p x) = l.take k ∧ (l.take (k + 1)).filter (fun x => !p x) = l.take k
  | [], i, _, h => by
    unfold slices_DeleteFunc_int_int.idx at h
    omega
  | x :: t, i, h0, h => by
    unfold slices_DeleteFunc_int_int.idx at h ⊢
    by_cases hp : p x = true
    · refine ⟨0, by rw [if_pos hp]; omega, by simp, rfl, ?_⟩
      simp [hp]
    · rw [if_neg hp] at h ⊢
      obtain ⟨k, h1, h2, h3, h4⟩ := slices_DeleteFunc_int_int.idx_some p t (i + 1) (by omega) h
      have hq : (!p x) = true := by simpa using hp
      refine ⟨k + 1, by omega, by simp; omega, ?_, ?_⟩
      · rw [List.take_succ_cons, List.filter_cons, if_pos hq, h3]
      · rw [List.take_succ_cons, List.filter_cons, if_pos hq, h4, List.take_succ_cons]
theorem slices_DeleteFunc_int_int.idx_rng (p : Int → Bool) : ∀ (l : List Int) (i : Int), 0 ≤ i → slices_DeleteFunc_int_int.idx p l i < 0 ∨ (0 ≤ slices_DeleteFunc_int_int.idx p l i ∧ slices_DeleteFunc_int_int.idx p l i < i + l.length)
  | [], i, _ => .inl (by show (-1 : Int) < 0; omega)
  | x :: t, i, h => by
    unfold slices_DeleteFunc_int_int.idx
    split
    · right; simp; omega
    · have := slices_DeleteFunc_int_int.idx_rng p t (i + 1) (by omega)
      simp only [List.length_cons]
      omega
/-- Cells behind the first m elements of an own row are written: these stay. -/
theorem R_clear {α : Type} {d : Kd α} {e base n cap g : Nat} {w : World} {ok : Nat → Prop} {xs : List α} (h : d.R e w base ok (.slice (some ⟨g, 0, none⟩) n cap) xs) (m : Nat) (hm : m ≤ n) (seg : List Value) (off : Nat) (hoff : m * d.sz ≤ off) (hfit : off + seg.length ≤ n * d.sz) :
    d.R e (w.setCells g off seg) base ok (.slice (some ⟨g, 0, none⟩) m cap) (xs.take m) ∧ w.grownBy (w.setCells g off seg) (some g) := by
  have hn := (Kd.R_reads' h).1
  have hnc := (Kd.R_reads' h).2.1
  obtain ⟨hok, inner, ho, hr⟩ := Kd.R_take h (m := m) (by omega)
  obtain ⟨ho1, ho2⟩ := ho
  rcases ho2 with ⟨hv, _⟩ | ⟨g', cap', cur, hv, hb, hh, hnc', hcm, hcs, ht⟩
  · cases hv
  injection hv with ha _ hc
  injection ha with ha
  injection ha with hg
  subst hg; subst hc
  have hcap : n * d.sz ≤ cap * d.sz := Nat.mul_le_mul_right _ hnc
  obtain ⟨cur', h3, h4, h5⟩ := setCells_row seg off w cur hh (by omega)
  obtain ⟨s1, s2, s3, s4⟩ := setCells_same g seg off w
  have hfar : ∀ k, k ≠ g → (w.setCells g off seg).heap[k]? = w.heap[k]? := fun k hk => setCells_far seg _ k hk
  have hl : (xs.take m).length = m := by rw [List.length_take]; omega
  refine ⟨⟨hok, inner, ⟨ho1, .inr ⟨g, cap, cur', by rw [hl], hb, h3, hnc', hcm, by rw [h4, hcs], ?_⟩⟩, hr.1, fun j p hj => Kd.M_step (hr.2 j p hj) (fun k hk _ => hfar k (fun e => hk.2 (by rw [e]; rfl)))⟩,
    ⟨s1, s2, s3, by rw [s4]; exact Nat.le_refl _, fun k _ hk => hfar k (fun he => hk (by rw [he]))⟩⟩
  rw [← ht, h5, hl, List.append_assoc, List.take_append_of_le_length (by rw [List.length_take, Array.length_toList]; omega), List.take_take, Nat.min_eq_left hoff]
theorem slices_DeleteFunc_int_int.bset {w W : World} {base gb : Nat} (h : Below base w W) (hb : base ≤ gb) (o : Nat) (v : Value) : Below base w (W.setCell ⟨gb, o, none⟩ v) :=
  h.trans ⟨by simp [World.setCell], by simp [World.setCell], by simp [World.setCell], by simp [World.setCell], fun k hk => Below.heap_setCell W ⟨gb, o, none⟩ v k (show ¬ k = gb by omega)⟩
theorem slices_DeleteFunc_int_int.far {w w1 : World} {B gb : Nat} {v : Value} (hne : B ≠ gb) (hl : B < w.heap.size) (hk : Kept w w1 (fun k_ => k_ = gb)) (hc : w.cell? ⟨B, 0, none⟩ = some v) : w1.cell? ⟨B, 0, none⟩ = some v := by
  have h := hk.2 B hl hne
  simp only [World.cell?] at hc ⊢
  rw [h]
  exact hc
set_option maxHeartbeats 8000000 in
set_option maxRecDepth 100000 in
theorem slices_DeleteFunc_int_int_test.calls (cols : Int) (B : Nat) (W : World) (hB : B < W.heap.size) (hc : W.cell? ⟨B, 0, none⟩ = some (.int .i64 cols)) (x : Int) :
    Calls Try.prog 58 (#[.int .i64 x] ++ #[.pointer (some ⟨B, 0, none⟩)]) W fun e w' => e = .returned (.bool (decide (cols ≤ x))) ∧ Below W.heap.size W w' := by
  have hne : B ≠ W.heap.size := by omega
  show Calls Try.prog 58 #[.int .i64 x, .pointer (some ⟨B, 0, none⟩)] W _
  go_enter Try.func58, Try.ntmps58
  go_wp2
  all_goals (go_ret; exact ⟨by first | rfl | simp_all, by repeat (first | exact Below.refl _ _ | apply Below.drew | refine Below.alloc ?_ (Nat.le_refl _) _)⟩)
set_option maxHeartbeats 8000000 in
set_option maxRecDepth 100000 in
theorem slices_DeleteFunc_int_int_index.calls (p : Int → Bool) (lb : Array Value) (A0 : Option Addr) (c0 : Nat) (l0 : List Int) (w : World) (hr0 : Kd.C (Kd.int .i64) w A0 l0.length l0)
    (hp : ∀ (W : World) (x : Int), Below w.heap.size w W → Calls Try.prog 58 (#[.int .i64 x] ++ lb) W fun e w' => e = .returned (.bool (p x)) ∧ Below W.heap.size W w') :
    Calls Try.prog 72 #[.slice A0 l0.length c0, .func (.func 58) #[] lb] w fun e w' => e = .returned (.int .i64 (slices_DeleteFunc_int_int.idx p l0 0)) ∧ Below w.heap.size w w' := by
  have hm0 := hr0.2.1
  have eg : ∀ args w, (callFunc 58 args).run Try.prog w = .ok (.enter 58 args) w := enters_of Try.func58 (by kernel_rfl) rfl
  have HR0 := Aside0.mk hr0
  have HM := Aside0.mk hm0
  have HP := Aside0.mk hp
  clear hr0 hm0 hp
  have HB := Aside0.mk (Below.refl w.heap.size w)
  go_enter Try.func72, Try.ntmps72
  go_wp2
  go_loopg [5, 8] l0.length (fun gg _ v8 w' => ∃ (x : Int), v8 = .int .i64 x ∧ Aside0 (0 ≤ x ∧ x ≤ (l0.length : Int)) ∧ Aside0 (((l0.length : Int) - x).toNat ≤ gg) ∧ Aside0 (slices_DeleteFunc_int_int.idx p l0 0 = slices_DeleteFunc_int_int.idx p (l0.drop x.toNat) x) ∧ Aside0 (Below w.heap.size w w'))
  case atStart => exact ⟨0, rfl, ⟨by omega⟩, ⟨by omega⟩, ⟨rfl⟩, HB⟩
  case round =>
    obtain ⟨x, rfl, HX, HG, HI, HB⟩ := hrel
    by_cases hlt : x < (l0.length : Int)
    · have b0 : decide (x < (l0.length : Int)) = true := decide_eq_true hlt
      obtain ⟨ad, e1, hx0⟩ := Kd.at_int HR0.out x HX.out.1 hlt
      cases e1
      replace hx0 := (HB.out.cell (World.block_lt_of_cell? w _ hx0)).trans hx0
      have hnat : x.toNat < l0.length := by have := HX.out.1; omega
      have hy : rd l0 x = l0[x.toNat] := by
        unfold rd
        simp [List.getD_eq_getElem?_getD, hnat]
      have HD := Aside0.mk (show slices_DeleteFunc_int_int.idx p l0 0 = if p (rd l0 x) = true then x else slices_DeleteFunc_int_int.idx p (l0.drop (x.toNat + 1)) (x + 1) from by rw [HI.out, List.drop_eq_getElem_cons hnat, hy]; rfl)
      have hcall := HP.out _ (rd l0 x) HB.out
      have HL := Aside0.mk hlt
      have px : (0 ≤ x) = True := eq_true HX.out.1
      have qx : (x < (l0.length : Int)) = True := eq_true hlt
      clear hy hnat hlt
      generalize rd l0 x = y at hx0 hcall HD
      cases hq : p y with
      | true =>
        rw [hq] at hcall
        go_wp2_with (go_at_call 58; refine hcall.mono ?_; rintro e w' ⟨rfl, hb'⟩)
        go_ret
        refine ⟨?_, HB.out.trans (hb'.mono HB.out.size)⟩
        rw [HD.out, if_pos hq]
        rfl
      | false =>
        rw [hq] at hcall
        go_wp2_with (go_at_call 58; refine hcall.mono ?_; rintro e w' ⟨rfl, hb'⟩)
        go_roundg (((l0.length : Int) - (x + 1)).toNat)
        case measure => have := HG.out; have := HL.out; omega
        case rel =>
          have hw : wrap64 (x + 1) = x + 1 := by have := HL.out; have := HX.out.1; have := HM.out; unfold wrap64; omega
          have h1 := HX.out.1
          have h2 := HL.out
          refine ⟨wrap64 (x + 1), (by first | rfl | (simp; done) | (simp [*]; done)), ⟨by rw [hw]; omega⟩, ⟨by rw [hw]; exact Nat.le_refl _⟩, ⟨?_⟩, ⟨HB.out.trans (hb'.mono HB.out.size)⟩⟩
          rw [hw, HD.out, if_neg (by rw [hq]; decide), show (x + 1).toNat = x.toNat + 1 by omega]
    · have b0 : decide (x < (l0.length : Int)) = false := decide_eq_false hlt
      go_wp2
      go_ret
      refine ⟨?_, HB.out⟩
      have h1 := HX.out
      rw [HI.out, List.drop_of_length_le (by omega)]
      rfl
set_option maxHeartbeats 8000000 in
set_option maxRecDepth 100000 in
theorem slices_DeleteFunc_int_int_delete.calls (cols : Int) (B gb n cap base : Nat) (OKP : Nat → Prop) (xs : List Int) (w : World) (HO : Kd.R (Kd.int .i64) 3 w base OKP (.slice (some ⟨gb, 0, none⟩) n cap) xs) (hB : B < w.heap.size) (hne : B ≠ gb) (hcell : w.cell? ⟨B, 0, none⟩ = some (.int .i64 cols)) :
    Calls Try.prog 57 #[.slice (some ⟨gb, 0, none⟩) n cap, .func (.func 58) #[] #[.pointer (some ⟨B, 0, none⟩)]] w fun e w' => ∃ v : Value, e = .returned v ∧ Kd.R (Kd.int .i64) 3 w' base OKP v (xs.filter (fun x => !decide (cols ≤ x))) ∧ Below base w w' ∧ Kept w w' (fun k_ => k_ = gb) := by
  have hnl : n = xs.length := (Kd.R_reads' HO).1
  have hnc : n ≤ cap := (Kd.R_reads' HO).2.1
  have hmax : xs.length ≤ 9223372036854775807 := (Kd.R_reads' HO).2.2.2.1
  have hbg : base ≤ gb := Kd.R_base HO gb (by simp [Value.ownBlock])
  have hbs : gb < w.heap.size := by
    obtain ⟨_, inner, hown, _⟩ := HO
    obtain ⟨cells, hc⟩ := own_typed hown gb (by simp [Value.ownBlock])
    exact (Array.getElem?_eq_some_iff.1 hc).1
  have eg : ∀ args w, (callFunc 58 args).run Try.prog w = .ok (.enter 58 args) w := enters_of Try.func58 (by kernel_rfl) rfl
  have hcon := slices_DeleteFunc_int_int_index.calls (fun x => decide (cols ≤ x)) #[.pointer (some ⟨B, 0, none⟩)] (some ⟨gb, 0, none⟩) cap xs w (Kd.R_reads' HO).2.2 (fun W x hb => slices_DeleteFunc_int_int_test.calls cols B W (Nat.lt_of_lt_of_le hB hb.size) ((hb.cell (p := ⟨B, 0, none⟩) hB).trans hcell) x)
  subst hnl
  have hrg := slices_DeleteFunc_int_int.idx_rng (fun x => decide (cols ≤ x)) xs 0 (by omega)
  have hno := slices_DeleteFunc_int_int.idx_none (fun x => decide (cols ≤ x)) xs 0 (by omega)
  have hso := slices_DeleteFunc_int_int.idx_some (fun x => decide (cols ≤ x)) xs 0 (by omega)
  have hm1 := slices_DeleteFunc_int_int.idx_m1 (fun x => decide (cols ≤ x)) xs 0 (by omega)
  generalize slices_DeleteFunc_int_int.idx (fun x => decide (cols ≤ x)) xs 0 = i0 at hcon hrg hno hso hm1
  by_cases c1 : i0 < 0
  · obtain rfl := hm1 c1
    rw [hno c1]
    have HO1 := Aside0.mk HO
    clear HO hno hso hm1 hrg hcell
    go_enter Try.func57, Try.ntmps57
    go_wp2_with (go_at_call 72; refine hcon.mono ?_; rintro e w1 ⟨rfl, hb⟩)
    go_ret
    exact ⟨_, rfl, Kd.R_below HO1.out hb, hb.mono (by omega), Kept.of_below hb _⟩
  · obtain ⟨k0, hk, hk2, ht1, ht2⟩ := hso (by omega)
    obtain rfl : i0 = (k0 : Int) := by omega
    have bm : ((k0 : Int) == -1) = false := beq_eq_false_iff_ne.2 (by omega)
    have HO1 := Aside0.mk HO
    have HT1 := Aside0.mk ht1
    have HT2 := Aside0.mk ht2
    have HK2 := Aside0.mk hk2
    have HBS := Aside0.mk hbs
    have HBG := Aside0.mk hbg
    have HC := Aside0.mk hcell
    have HNE := Aside0.mk hne
    have HBW := Aside0.mk hB
    have HMX := Aside0.mk hmax
    have HNC := Aside0.mk hnc
    clear HO hno hso hm1 hrg hcell ht1 ht2 hk c1 hmax
    go_enter Try.func57, Try.ntmps57
    go_wp2_with (go_at_call 72; refine hcon.mono ?_; rintro e w1 ⟨rfl, hb⟩; have HB1 := Aside0.mk hb; clear hb)
    go_loopg [5, 6] xs.length (fun gg v5 v6 wr => ∃ (i j : Int) (cur : List Int), v5 = .int .i64 i ∧ v6 = .int .i64 j ∧ Aside0 (0 ≤ i ∧ i < j ∧ j ≤ (xs.length : Int)) ∧ Aside0 (((xs.length : Int) - j).toNat ≤ gg) ∧ Aside0 (cur.take i.toNat = (xs.take j.toNat).filter (fun x => !decide (cols ≤ x))) ∧ Aside0 (cur.drop j.toNat = xs.drop j.toNat) ∧ Aside0 (Kd.R (Kd.int .i64) 3 wr base OKP (.slice (some ⟨gb, 0, none⟩) xs.length cap) cur) ∧ Aside0 (Below base w wr) ∧ Aside0 (Kept w wr (fun k_ => k_ = gb)))
    case atStart =>
      have hw : wrap64 ((k0 : Int) + 1) = (k0 : Int) + 1 := by have := HK2.out; have := HMX.out; unfold wrap64; omega
      have h1 := HK2.out
      exact ⟨(k0 : Int), wrap64 ((k0 : Int) + 1), xs, rfl, (by first | rfl | (simp; done) | (simp [*]; done)), ⟨by rw [hw]; omega⟩, ⟨by rw [hw]; omega⟩, ⟨by rw [hw, show ((k0 : Int) + 1).toNat = k0 + 1 by omega, Int.toNat_natCast]; exact HT2.out.symm⟩, ⟨rfl⟩, ⟨Kd.R_below HO1.out HB1.out⟩, ⟨HB1.out.mono (Nat.le_trans HBG.out (Nat.le_of_lt HBS.out))⟩, ⟨Kept.of_below HB1.out _⟩⟩
    case round =>
      obtain ⟨i, j, cur, rfl, rfl, HX, HG, HI, HD, HR, HB, HKP⟩ := hrel
      have hlen : xs.length = cur.length := (Kd.R_reads' HR.out).1
      have HL := Aside0.mk hlen
      have HBr := Aside0.mk (Nat.lt_of_lt_of_le HBW.out HKP.out.1)
      have HCr := Aside0.mk (slices_DeleteFunc_int_int.far HNE.out HBW.out HKP.out HC.out)
      by_cases hlt : j < (xs.length : Int)
      · have b0 : decide (j < (xs.length : Int)) = true := decide_eq_true hlt
        have hx := HX.out
        obtain ⟨c, hcl, hM0, hcc, hfr⟩ := Kd.R_elem HR.out (0 : Int) j (by omega) hlt
        obtain rfl := int_openM hM0
        have hx0 : wr.cell? ⟨gb, j.toNat, none⟩ = some (.int .i64 (cur.getD j.toNat 0)) := by have := hcc 0 _ rfl; simpa only [show (Kd.int .i64).sz = 1 from rfl, Nat.mul_one, Nat.add_zero] using this
        have hjl : j.toNat < xs.length := by omega
        have hjc : j.toNat < cur.length := by omega
        have hy : cur.getD j.toNat 0 = xs[j.toNat] := by
          have h1 : (cur.drop j.toNat)[0]? = (xs.drop j.toNat)[0]? := by rw [HD.out]
          rw [List.getElem?_drop, List.getElem?_drop, Nat.add_zero, List.getElem?_eq_getElem hjl, List.getElem?_eq_getElem hjc] at h1
          rw [List.getD_eq_getElem?_getD, List.getElem?_eq_getElem hjc]
          exact Option.some.inj h1
        have HF := Aside0.mk (show (xs.take (j.toNat + 1)).filter (fun x => !decide (cols ≤ x)) = cur.take i.toNat ++ (if (!decide (cols ≤ cur.getD j.toNat 0)) = true then [cur.getD j.toNat 0] else []) from by
          rw [← List.take_append_getElem hjl, List.filter_append, HI.out, hy]
          congr 1
          simp only [List.filter_cons, List.filter_nil])
        have HD2 := Aside0.mk (show cur.drop (j.toNat + 1) = xs.drop (j.toNat + 1) from by rw [← List.drop_drop, HD.out, List.drop_drop])
        have px : (0 ≤ j) = True := eq_true (by omega)
        have qx : (j < (xs.length : Int)) = True := eq_true hlt
        have HJ := Aside0.mk hlt
        clear hcc hfr hM0 hcl hjl hjc hy hlt hx hlen
        generalize cur.getD j.toNat 0 = y at hx0 HF
        have hcl := slices_DeleteFunc_int_int_test.calls cols B wr HBr.out HCr.out y
        cases hq : decide (cols ≤ y) with
        | true =>
          rw [hq] at hcl
          go_wp2_with (go_at_call 58; refine hcl.mono ?_; rintro e w3 ⟨rfl, hb3⟩; have HB3 := Aside0.mk hb3; clear hb3)
          go_roundg (((xs.length : Int) - (j + 1)).toNat)
          case measure => have := HG.out; have := HJ.out; have := HX.out; omega
          case rel =>
            have hw : wrap64 (j + 1) = j + 1 := by have := HJ.out; have := HX.out; have := HMX.out; unfold wrap64; omega
            have h1 := HX.out
            have h2 := HJ.out
            have hb := HB3.out
            refine ⟨i, wrap64 (j + 1), cur, rfl, (by first | rfl | (simp; done) | (simp [*]; done)), ⟨by rw [hw]; omega⟩, ⟨by rw [hw]; exact Nat.le_refl _⟩, ⟨?_⟩, ⟨?_⟩, ⟨Kd.R_below HR.out hb⟩, ⟨HB.out.trans (hb.mono (Nat.le_trans (Nat.le_trans HBG.out (Nat.le_of_lt HBS.out)) HB.out.size))⟩, ⟨HKP.out.below hb⟩⟩
            · rw [hw, show (j + 1).toNat = j.toNat + 1 by omega, HF.out, hq]
              simp
            · rw [hw, show (j + 1).toNat = j.toNat + 1 by omega]
              exact HD2.out
        | false =>
          rw [hq] at hcl
          have hx := HX.out
          have hjn := HJ.out
          have pi : (0 ≤ i) = True := eq_true (by omega)
          have qi : (i < (xs.length : Int)) = True := eq_true (by omega)
          have HI0 := Aside0.mk (show 0 ≤ i ∧ i < (xs.length : Int) from by omega)
          clear hx hjn
          go_wp2_with (go_at_call 58; refine hcl.mono ?_; rintro e w3 ⟨rfl, hb3⟩; have HB3 := Aside0.mk hb3; have HR3 := Aside0.mk (Kd.R_below HR.out hb3); have HW3 := Aside0.mk (HB.out.trans (hb3.mono (Nat.le_trans (Nat.le_trans HBG.out (Nat.le_of_lt HBS.out)) HB.out.size))); have HK3 := Aside0.mk (HKP.out.below hb3); obtain ⟨c, hcl, hM0, hcc, hfr⟩ := Kd.R_elem HR3.out (0 : Int) i HI0.out.1 HI0.out.2; obtain rfl := int_openM hM0; have hi0 := hcc 0 _ rfl; have hf0 := hfr 0; simp only [show (Kd.int .i64).sz = 1 from rfl, Nat.mul_one, Nat.add_zero] at hi0 hf0; clear hcc hfr hM0 hcl hb3)
          go_roundg (((xs.length : Int) - (j + 1)).toNat)
          case measure => have := HG.out; have := HJ.out; have := HX.out; omega
          case rel =>
            have hw : wrap64 (j + 1) = j + 1 := by have := HJ.out; have := HX.out; have := HMX.out; unfold wrap64; omega
            have hwi : wrap64 (i + 1) = i + 1 := by have := HI0.out; have := HMX.out; unfold wrap64; omega
            have h1 := HX.out
            have h2 := HJ.out
            have h3 := HI0.out
            have h4 := HL.out
            refine ⟨wrap64 (i + 1), wrap64 (j + 1), cur.set i.toNat y, (by first | rfl | (simp; done) | (simp [*]; done)), (by first | rfl | (simp; done) | (simp [*]; done)), ⟨by rw [hw, hwi]; omega⟩, ⟨by rw [hw]; exact Nat.le_refl _⟩, ⟨?_⟩, ⟨?_⟩, ⟨(Kd.R_putg HR3.out i y).1⟩, ⟨slices_DeleteFunc_int_int.bset HW3.out HBG.out _ _⟩, ⟨Kept.setCell HK3.out (.inl rfl) _⟩⟩
            · rw [hw, hwi, show (j + 1).toNat = j.toNat + 1 by omega, show (i + 1).toNat = i.toNat + 1 by omega, HF.out, hq, if_pos (by rfl)]
              rw [List.take_add_one, List.take_set_of_le (Nat.le_refl _), List.getElem?_set_self (by omega)]
              rfl
            · rw [hw, show (j + 1).toNat = j.toNat + 1 by omega, List.drop_set_of_lt (by omega)]
              exact HD2.out
      · have b0 : decide (j < (xs.length : Int)) = false := decide_eq_false hlt
        have hx := HX.out
        obtain rfl : j = (xs.length : Int) := by omega
        have pi : (0 ≤ i) = True := eq_true (by omega)
        have qi : (i ≤ (xs.length : Int)) = True := eq_true (by omega)
        have hrc := R_clear HR.out i.toNat (by omega) (List.replicate (xs.length - i.toNat) (.int .i64 0)) i.toNat (by show i.toNat * 1 ≤ i.toNat; omega) (by rw [List.length_replicate]; show i.toNat + (xs.length - i.toNat) ≤ xs.length * 1; omega)
        obtain ⟨i0i, hi0, hz0, hsz0, hbt0⟩ := info_parts info3
        have hil : i.toNat < xs.length := by omega
        have hcf := cut_from (P := Try.prog) 22 3 .i64 Try.underlying22 hi0 1 hsz0 (some ⟨gb, 0, none⟩) xs.length cap i (by omega) (by omega)
        rw [if_neg (show ¬ cap = i.toNat by have := HNC.out; omega), Nat.mul_one, show (some (⟨gb, 0, none⟩ : Addr)).map (·.add i.toNat) = some ⟨gb, i.toNat, none⟩ from by rw [Option.map_some, add_plain]] at hcf
        have hct := cut_to (P := Try.prog) 22 3 .i64 Try.underlying22 hi0 (some ⟨gb, 0, none⟩) xs.length cap i (by omega) (by omega) HNC.out
        have hclr : ∀ ty, (Builtin.clear_ #[22] ty #[.slice (some ⟨gb, i.toNat, none⟩) (xs.length - i.toNat) (cap - i.toNat)]).run Try.prog wr = .ok (.tuple #[]) (wr.setCells gb i.toNat (List.replicate (xs.length - i.toNat) (.int .i64 0))) := by
          obtain ⟨_, inner, hown, _⟩ := HR.out
          rcases hown.2 with ⟨hv, _⟩ | ⟨g', cap', cr, hv, hb, hh, hnc', hcm, hcs, _⟩
          · cases hv
          injection hv with ha _ hc
          injection ha with ha
          injection ha with hg
          subst hg; subst hc
          have hsz : cr.size = cap := by have h : cr.size = cap * 1 := hcs; omega
          have hnc2 := HNC.out
          have hzc : (Builtin.zeroCells (Value.int .i64 0).cells (xs.length - i.toNat)).toList = List.replicate (xs.length - i.toNat) (.int .i64 0) := by
            apply List.ext_getElem
            · simp [Builtin.zeroCells, Value.cells]
            · intro k h1 h2
              simp [Builtin.zeroCells, Value.cells, Nat.mod_one]
          have hst := run_storeCells_cells (P := Try.prog) gb i.toNat (List.replicate (xs.length - i.toNat) (.int .i64 0)) 0 wr (fun j hj => by
            rw [List.length_replicate] at hj
            rw [cell_of_row wr gb _ cr 3 (0, 0) hh, Array.getElem?_eq_getElem (by omega)]
            rfl) (fun j hj => blk_frozen hh _) (by intro v hv'; rw [List.eq_of_mem_replicate hv']; rfl)
          simp only [Nat.add_zero] at hst
          obtain ⟨m, hm⟩ : ∃ m, xs.length - i.toNat = m + 1 := ⟨xs.length - i.toNat - 1, by omega⟩
          rw [hm] at hzc hst ⊢
          simp [Builtin.clear_, run_underlying Try.underlying22, Try.zeroValue3, hzc, hst]
        have HRC := Aside0.mk hrc
        have HX2 := Aside0.mk (show base ≤ gb from HBG.out)
        clear hrc hil hx hlen hnc hk2
        go_wp2
        go_ret
        refine ⟨_, rfl, ?_, ?_, HKP.out.then_ (S2 := fun k_ => k_ = gb) ⟨HRC.out.2.size, fun k _ hk => setCells_far _ _ k hk⟩ (fun k hk => .inl hk)⟩
        · have h1 := HRC.out.1
          rw [HI.out, Int.toNat_natCast, List.take_length] at h1
          exact h1
        · refine HB.out.trans ⟨HRC.out.2.os, HRC.out.2.tape, HRC.out.2.output, HRC.out.2.size, fun k hk => ?_⟩
          rcases Nat.lt_or_ge k wr.heap.size with h1 | h1
          · exact HRC.out.2.block k h1 (fun e => by have := Option.some.inj e; omega)
          · exact setCells_far _ _ k (by omega)
def slices_DeleteFunc_int_int.f (l0 : List Int) (a1 : Int) : Option (List Int × Int) := some (l0.filter (fun x => !decide (a1 ≤ x)), a1)
set_option maxHeartbeats 8000000 in
set_option maxRecDepth 100000 in
theorem slices_DeleteFunc_int_int.calls (P0_ : Nat → Prop) (u9000_ : Value) (l0 : List Int) (g : Nat) (a1 : Int) (r1 : List Int) (r2 : Int) (w0 w : World) (hb : w.heap[g]? = some (.cells #[.int .i64 a1] 3 (0, 0))) (hg : w0.heap.size ≤ g) (hB : Below w0.heap.size w0 w) (ho0 : Kd.R (Kd.int .i64) 3 w w0.heap.size P0_ u9000_ l0) (h : slices_DeleteFunc_int_int.f l0 a1 = some (r1, r2)) (hne : ∀ k_, P0_ k_ → ¬ k_ = g := by (intro k_ hk_ e_; subst e_; first | exact hk_.2 rfl | (simp_all; done))) :
    Calls Try.prog 57 #[u9000_, .func (.func 58) #[] #[.pointer (some ⟨g, 0, none⟩)]] w fun e w' => ∃ v0_ : Value, Aside0 (e = .returned (v0_) ∧ Kd.R (Kd.int .i64) 3 w' w0.heap.size (fun k_ => (P0_ k_ ∨ w.heap.size ≤ k_)) v0_ r1 ∧ w'.heap[g]? = some (.cells #[.int .i64 r2] 3 (0, 0)) ∧ Below w0.heap.size w0 w' ∧ Kept w w' (fun k_ => (P0_ k_) ∨ k_ = g)) := by
  obtain ⟨h1, h2⟩ := Prod.mk.inj (Option.some.inj h)
  subst h1 h2
  clear h
  have hcell : w.cell? ⟨g, 0, none⟩ = some (.int .i64 a1) := (blk_cell hb 0).trans rfl
  have hlt : g < w.heap.size := blk_lt hb
  obtain ⟨hok, inner, hown, hrep⟩ := ho0
  rcases hown.2 with ⟨hv, hn0⟩ | ⟨g', cap', cr, hv, hb', hh, _⟩
  · subst hv
    have hl0 : l0 = [] := List.length_eq_zero_iff.1 hn0
    subst hl0
    have eg : ∀ args w, (callFunc 58 args).run Try.prog w = .ok (.enter 58 args) w := enters_of Try.func58 (by kernel_rfl) rfl
    have hcon := slices_DeleteFunc_int_int_index.calls (fun x => decide (a1 ≤ x)) #[.pointer (some ⟨g, 0, none⟩)] none 0 [] w (Kd.C_nil _ _) (fun W x hb => slices_DeleteFunc_int_int_test.calls a1 g W (Nat.lt_of_lt_of_le hlt hb.size) ((hb.cell (p := ⟨g, 0, none⟩) hlt).trans hcell) x)
    have hi : slices_DeleteFunc_int_int.idx (fun x => decide (a1 ≤ x)) [] 0 = -1 := rfl
    rw [hi] at hcon
    simp only [List.length_nil] at hcon
    have HB := Aside0.mk hB
    have HBX := Aside0.mk hb
    have HL := Aside0.mk hlt
    clear hB hb hcell hlt hok hown hrep hg hne
    go_enter Try.func57, Try.ntmps57
    go_wp2_with (go_at_call 72; refine hcon.mono ?_; rintro e w2 ⟨rfl, hb2⟩)
    go_ret
    exact ⟨_, ⟨rfl, Kd.R_nil _ _ _ _ _, (hb2.block g HL.out).trans HBX.out, HB.out.trans (hb2.mono HB.out.size), Kept.of_below hb2 _⟩⟩
  · subst hv
    have hR : Kd.R (Kd.int .i64) 3 w w0.heap.size (fun k_ => (P0_ k_ ∨ w.heap.size ≤ k_)) (.slice (some ⟨g', 0, none⟩) l0.length cap') l0 := ⟨fun k hk => .inl (hok k hk), inner, hown, hrep.imp_ (fun x c h => h)⟩
    have hP : P0_ g' := hok g' rfl
    have hgg : g ≠ g' := fun e => hne g' hP e.symm
    refine (slices_DeleteFunc_int_int_delete.calls a1 g g' l0.length cap' w0.heap.size _ l0 w hR hlt hgg hcell).mono ?_
    rintro e w' ⟨v, rfl, hR2, hb2, hk2⟩
    exact ⟨v, ⟨rfl, hR2, (hk2.2 g hlt hgg).trans hb, hB.trans hb2, hk2.mono (fun k hk => .inl (by rw [hk]; exact hP))⟩⟩

end Go.Proofs.Ytgnbhomdkchcfaa.PF11M
