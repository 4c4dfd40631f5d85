/- By a program of this session (wip/tool/pp.py): plain Lean functions of the Go functions that this family of laws uses, the walks that the Go code comes to their answers, and the row of the law. No condition beside those that the row itself gives. -/
import Derived.Test.YtkckojgjkmcokaaPF10x0
import Derived.Test.YtkckojgjkmcokaaPF10x2
import Derived.Test.YtkckojgjkmcokaaPF10x4
namespace Go.Proofs.Ytkckojgjkmcokaa.PF10
open Go.RowKit Go.Proofs.YtkckojgjkmcokaaW.Hand Go.Proofs.YtkckojgjkmcokaaW.PrintWords Go.Proofs.YtkckojgjkmcokaaW.PrintLast Go.Proofs.YtkckojgjkmcokaaW.PrintMore
attribute [local go_sem] max2_int min2_int max_two min_two max_three min_three max_four min_four   -- for this text's walks alone
open List (setIfInBounds_toArray set_cons_zero set_cons_succ)
set_option linter.unusedVariables false
set_option linter.unusedSimpArgs false

/-! ### (*Board).line, grid_Board_Up: functions 77, 73 (by hand) -/
/-- copy of whole elements, into a row that has room for them. -/
theorem run_copy_sz {P : Program} (w : World) (dT sT ty elem : TypeId) (b o dLen dCap : Nat) (a : Addr) (sLen sCap size m : Nat) (cs : List Value) (hu : P.underlying dT = some (.slice elem)) (hs : (P.info? elem).map (·.size) = some size) (hm : Nat.min sLen dLen = m) (hn : cs.length = m * size)
  (hsrc : ∀ j v, cs[j]? = some v → w.cell? (a.add j) = some v) (hsp : ∀ j, j < cs.length → (w.cell? ⟨b, o + j, none⟩).isSome = true) (hfz : ∀ j, j < cs.length → w.frozen? ⟨b, o + j, none⟩ = false) (h1 : ∀ v ∈ cs, v.oneCell' = true) :
  (Builtin.copy_ #[dT, sT] ty #[.slice (some ⟨b, o, none⟩) dLen dCap, .slice (some a) sLen sCap]).run P w = .ok (goInt m) (w.setCells b o cs) := by
 have hl := run_loadCells_list (P := P) w a cs hsrc
 have hst := run_storeCells_cells (P := P) b o cs 0 w (by simpa using hsp) (by simpa using hfz) h1
 simp only [Nat.add_zero] at hst
 cases hq : P.info? elem with
 | none => simp [hq] at hs
 | some i =>
  have hi : i.size = size := by simpa [hq] using hs
  rw [hn] at hl
  simp [Builtin.copy_, run_underlying hu, Builtin.lenOf, Builtin.firstCells, sizeOf, typeInfo, hq, hi, hm, hl, hst]
/-- One operation 'copy' whose run is known, in a region that draws. -/
theorem step_copy_known {P : Program} {ops : Array Oper} {o : Oper} {a : Act} {w : World} {K : Act → World → Prop} {Q : Exit → Act → World → Prop} {E : Prop}
  (hg : o.guard = none) (d x : Operand) (dT sT : TypeId) (hop : o.op = Op.call { callee := Callee.builtin Builtin.copy, args := #[d, x], argTypes := #[dT, sT] })
  (v u : Value) (hd : a.eval d = v) (hx : a.eval x = u) {v' : Value} {w' : World} (hr : (Builtin.copy_ #[dT, sT] o.type #[v, u]).run P w = .ok v' w') (hK : K (a.put o.dst v') w') :
  if Region.wanted o (yielded ops a.tmps) = true then Oper.wp P o a w K Q else E := by
 rw [if_pos (by simp [Region.wanted, hg])]
 simp [Oper.wp, execOp, hop, resolve, invoke, builtin, hd, hx, hr, Result.andThen]
 exact hK
/-- Cells that say what a row's elements are, as a row of one's own. -/
theorem R_ofcells {α : Type} {d : Kd α} {e base g cap : Nat} {w W : World} {ok ok1 : Nat → Prop} {b1 : Nat} {xs : List α} {inner : List Value} (hM : ∀ (w w' : World) (b b' : Nat) (ok ok' : Nat → Prop) (x : α) (c : List Value), d.M w b ok x c → d.M w' b' ok' x c)
  (hr : Reps (d.M w b1 ok1) d.sz xs inner) {cur : Array Value} (hb : base ≤ g) (hh : W.heap[g]? = some (.cells cur e (0, 0))) (hnc : xs.length ≤ cap) (hcm : cap ≤ maxLen) (hcs : cur.size = cap * d.sz) (ht : cur.toList.take (xs.length * d.sz) = inner) (hok : ok g) :
  d.R e W base ok (.slice (some ⟨g, 0, none⟩) xs.length cap) xs := by
 refine ⟨fun k hk => ?_, inner, ⟨hr.1, .inr ⟨g, cap, cur, rfl, hb, hh, hnc, hcm, hcs, ht⟩⟩, hr.imp_ (fun x c h => hM _ _ _ _ _ _ x c h)⟩
 have : g = k := by simpa [Value.ownBlock] using hk
 subst this
 exact hok
theorem cells_over {z n d m : Nat} {cur cs : List Value} (hl : n * z ≤ cur.length) (hd : d + m ≤ n) (hc : cs.length = m * z) :
  (cur.take (d * z) ++ cs ++ cur.drop (d * z + cs.length)).take (n * z) = (cur.take (n * z)).take (d * z) ++ cs ++ (cur.take (n * z)).drop ((d + m) * z) := by
 have e1 : (d + m) * z = d * z + m * z := Nat.add_mul _ _ _
 have e2 : (d + m) * z ≤ n * z := Nat.mul_le_mul_right _ hd
 have h1 : (cur.take (d * z)).length = d * z := by rw [List.length_take]; omega
 rw [List.take_append, List.take_of_length_le (l := cur.take (d * z) ++ cs) (by rw [List.length_append, h1, hc]; omega), List.take_take, Nat.min_eq_left (by omega), List.drop_take, List.length_append, h1, hc, e1]
theorem copy_own {P : Program} {α : Type} {k : Kd α} (flat : ∀ (w w' : World) (b b' : Nat) (ok ok' : Nat → Prop) (x : α) (c : List Value), k.M w b ok x c → k.M w' b' ok' x c) (hKM : ∀ (w : World) (b : Nat) (ok : Nat → Prop) (x : α) (c : List Value), k.K w x c → k.M w b ok x c)
  {e base : Nat} {ok : Nat → Prop} {w : World} {A : Option Addr} {n c : Nat} {l : List α} (hR : k.R e w base ok (.slice A n c) l)
  {B : Option Addr} {m : Nat} {xs : List α} (hC : k.C w B m xs) (hz : 0 < k.sz) (dT sT : TypeId) (hu : P.underlying dT = some (.slice e)) {i0 : TypeInfo} (hi : P.info? e = some i0) (hsz : i0.size = k.sz) (d dl dc sl sc : Nat) (hm : Nat.min sl dl = m) (hm0 : 0 < m) (hd : d + m ≤ l.length) (D : Option Addr) (hD : D = if c = d then A else A.map (·.add (d * k.sz))) :
  ∃ w2, (∀ ty, (Builtin.copy_ #[dT, sT] ty #[.slice D dl dc, .slice B sl sc]).run P w = .ok (goInt m) w2) ∧ k.R e w2 base ok (.slice A n c) (l.take d ++ xs ++ l.drop (d + m)) ∧ (w2.os = w.os ∧ w2.tape = w.tape ∧ w2.output = w.output ∧ w2.heap.size = w.heap.size) ∧ ∀ j, (¬ ok j ∨ j < base) → w2.heap[j]? = w.heap[j]? := by
 obtain ⟨hok, inner, hown, hr⟩ := hR
 rcases hown.2 with ⟨_, hn⟩ | ⟨g, cap, cur, hv, hb, hh, hnn, hcm, hcs, ht⟩
 ·omega
 injection hv with ha hl hcc
 subst ha; subst hcc; subst hl
 have hcd : ¬ c = d := by omega
 rw [if_neg hcd, Option.map_some, add_plain] at hD
 subst hD
 obtain ⟨ad, rfl, _⟩ := hC.2.2 hm0
 have hxl := hC.1
 obtain ⟨cs, hcr, hcc⟩ := ReadsRow.inner_ hC
 have hcl : cs.length = m * k.sz := by rw [hcr.1, hxl]
 have hcurl : cur.toList.length = cur.size := Array.length_toList
 have hle : l.length * k.sz ≤ c * k.sz := Nat.mul_le_mul_right _ hnn
 have hdm : d * k.sz + m * k.sz ≤ l.length * k.sz := by rw [← Nat.add_mul]; exact Nat.mul_le_mul_right _ hd
 have h1 : ∀ v ∈ cs, v.oneCell' = true := Kd.reps_one hcr hz (fun _ _ hp => k.K_one hp)
 have hrun := fun ty => run_copy_sz (P := P) w dT sT ty e g (d * k.sz) dl dc ad sl sc k.sz m cs hu (by rw [hi]; simp [hsz]) hm hcl (fun j v hj => hcc j v hj)
  (fun j hj => by rw [cell_of_row w g _ cur e (0, 0) hh, Array.getElem?_eq_getElem (by omega)]; rfl) (fun j hj => blk_frozen hh _) h1
 obtain ⟨cur', e1, e2, e3⟩ := setCells_row cs (d * k.sz) w cur hh (by omega)
 have hfar := fun j hj => setCells_far (g := g) cs (d * k.sz) (w := w) j hj
 have hsame := setCells_same g cs (d * k.sz) w
 have hrall : Reps (k.M w base (fun _ => True)) k.sz (l.take d ++ xs ++ l.drop (d + m)) (inner.take (d * k.sz) ++ cs ++ inner.drop ((d + m) * k.sz)) :=
  Kd.reps_append (Kd.reps_append (Kd.reps_take (hr.imp_ (fun x c h => flat _ _ _ _ _ _ x c h)) (by omega)) (hcr.imp_ (fun x c h => hKM _ _ _ x c h))) (Kd.reps_drop (hr.imp_ (fun x c h => flat _ _ _ _ _ _ x c h)))
 have hlen : (l.take d ++ xs ++ l.drop (d + m)).length = l.length := by rw [List.length_append, List.length_append, List.length_take, List.length_drop, hxl]; omega
 have hover := cells_over (z := k.sz) (n := l.length) (d := d) (m := m) (cur := cur.toList) (cs := cs) (by omega) hd hcl
 rw [← e3] at hover
 rw [show cur.toList.take (l.length * k.sz) = inner from ht] at hover
 refine ⟨_, hrun, ?_, hsame, fun j hj => ?_⟩
 ·have h := R_ofcells (d := k) (e := e) (base := base) (g := g) (cap := c) (W := w.setCells g (d * k.sz) cs) (ok := ok) flat hrall hb e1 (by rw [hlen]; exact hnn) hcm (by rw [e2]; exact hcs) (by rw [hlen]; exact hover) (hok g rfl)
  rw [hlen] at h
  exact h
 ·refine hfar j (fun e => ?_)
  subst e
  rcases hj with hj | hj
  ·exact hj (hok j rfl)
  ·omega

theorem bc5_ {W : World} {g : Nat} {cs : Array Value} {t : TypeId} (h : Aside0 (W.heap[g]? = some (.cells cs t (0, 0)))) (j : Nat) {v : Value} (hv : cs[j]? = some v := by rfl) : W.cell? ⟨g, j, none⟩ = some v := (blk_cell h.out j).trans hv
theorem A5_ {p : Prop} (h : p) : Aside0 p := ⟨h⟩
theorem q5_3 {p : Prop} (h : p := by repeat (first | (with_reducible first | exact HB.out | apply below_alloc | apply pw_below_drewN | apply below_drew1) | exact HB.out)) : p := h
theorem q5_4 {p : Prop} (h : p := by repeat (first | (with_reducible first | exact HB.out | apply below_alloc | apply pw_below_drewN | apply below_drew1 | refine below_set ?_ GE206.out) | exact HB.out)) : p := h
theorem q5_5 {p : Prop} (h : p := by (with_reducible repeat (first | refine blk_drewN ?_ _ | refine blk_drew ?_ | refine blk_alloc ?_ _)); exact BK206.out) : p := h
theorem q5_6 {p : Prop} (h : p := by (try simp only [List.map_toArray, List.map_cons, List.map_nil]); first | done | rfl | (simp only [List.length_drop, List.length_take]; rfl)) : p := h
theorem q5_7 {p : Prop} (h : p := by repeat (first | (with_reducible first | exact HB.out | apply below_alloc | apply pw_below_drewN | apply below_drew1 | refine below_set ?_ GE163.out) | exact HB.out)) : p := h
theorem q5_8 {p : Prop} (h : p := by (with_reducible repeat (first | refine blk_drewN ?_ _ | refine blk_drew ?_ | refine blk_alloc ?_ _)); exact BK163.out) : p := h
theorem q5_9 {p : Prop} (h : p := by first | (rw [add_block]; exact hn203_2) | (show (Addr.add _ _).block ≠ _; rw [add_block]; exact hn203_2) | exact hn203_2) : p := h
theorem q5_10 {p : Prop} (h : p := by first | (rw [add_block]; exact hn203_1) | (show (Addr.add _ _).block ≠ _; rw [add_block]; exact hn203_1) | exact hn203_1) : p := h
theorem q5_11 {p : Prop} (h : p := by first | (rw [add_block]; exact hn203_0) | (show (Addr.add _ _).block ≠ _; rw [add_block]; exact hn203_0) | exact hn203_0) : p := h
theorem q5_12 {p : Prop} (h : p := by first | (rw [add_block]; exact hn204_2) | (show (Addr.add _ _).block ≠ _; rw [add_block]; exact hn204_2) | exact hn204_2) : p := h
theorem q5_13 {p : Prop} (h : p := by first | (rw [add_block]; exact hn204_1) | (show (Addr.add _ _).block ≠ _; rw [add_block]; exact hn204_1) | exact hn204_1) : p := h
theorem q5_14 {p : Prop} (h : p := by first | (rw [add_block]; exact hn204_0) | (show (Addr.add _ _).block ≠ _; rw [add_block]; exact hn204_0) | exact hn204_0) : p := h
theorem q5_15 {p : Prop} (h : p := by kernel_rfl) : p := h
theorem q5_16 {p : Prop} (h : p := by first | (rw [add_block]; exact hn205_2) | (show (Addr.add _ _).block ≠ _; rw [add_block]; exact hn205_2) | exact hn205_2) : p := h
theorem q5_17 {p : Prop} (h : p := by first | (rw [add_block]; exact hn205_1) | (show (Addr.add _ _).block ≠ _; rw [add_block]; exact hn205_1) | exact hn205_1) : p := h
theorem q5_18 {p : Prop} (h : p := by first | (rw [add_block]; exact hn205_0) | (show (Addr.add _ _).block ≠ _; rw [add_block]; exact hn205_0) | exact hn205_0) : p := h
theorem q5_19 {p : Prop} (h : p := by (with_reducible repeat (first | apply Kd.R_alloc | apply Kd.R_drewN | apply Kd.R_drew)); exact HO201.out) : p := h
theorem q5_20 {p : Prop} (h : p := by (with_reducible repeat (first | apply Kd.R_alloc | apply Kd.R_drewN | apply Kd.R_drew)); exact HO196.out) : p := h
theorem q5_21 {p : Prop} (h : p := by (with_reducible repeat (first | apply Kd.R_alloc | apply Kd.R_drewN | apply Kd.R_drew)); exact HO182.out) : p := h
theorem q5_22 {p : Prop} (h : p := by first | (with_reducible assumption) | assumption) : p := h
theorem q5_23 {p : Prop} (h : p := by omega) : p := h
set_option maxHeartbeats 8000000 in
set_option maxRecDepth 100000 in
theorem grid_Board_Up_line.calls (g : Nat) (rows cols : Int) (A : Option Addr) (n c : Nat) (row : Int) (w : World) (hb : w.heap[g]? = some (.cells #[.int .i64 rows, .int .i64 cols, .slice A n c] 112 (0, 0))) (lo hi : Int) (e0 : wrap64 (row * cols) = lo) (e1 : wrap64 (wrap64 (row + 1) * cols) = hi) (h0 : 0 ≤ lo) (h1 : lo ≤ hi) (h2 : hi ≤ n) (hn : n ≤ c) {i0 : TypeInfo} (hi0 : Try.prog.info? 53 = some i0) (hsz0 : i0.size = 4) :
  Calls Try.prog 77 #[.pointer (some ⟨g, 0, none⟩), .int .i64 row] w fun e w' => e = .returned (.slice (if c = lo.toNat then A else A.map (·.add (lo.toNat * 4))) (hi.toNat - lo.toNat) (c - lo.toNat)) ∧ ∃ m, w' = w.drewN m := by
 have hcm := cut_mid (P := Try.prog) 47 53 .i64 .i64 Try.underlying47 hi0 4 hsz0 A n c lo hi h0 h1 h2 hn
 generalize (if c = lo.toNat then A else A.map (·.add (lo.toNat * 4))) = A2 at hcm ⊢
 have hc0 : w.cell? ⟨g, 1, none⟩ = some (.int .i64 cols) := (blk_cell hb 1).trans rfl
 have hc1 : w.cell? ⟨g, 2, none⟩ = some (.slice A n c) := (blk_cell hb 2).trans rfl
 clear hb hi0 hsz0
 go_enter Try.func77, Try.ntmps77
 go_wp2
 repeat (go_quiet (fail); try go_wp2)
 go_ret
 exact ⟨by first | rfl | simp_all, _, rfl⟩
theorem grid_Board_Up_flat (w w' : World) (b b' : Nat) (ok ok' : Nat → Prop) (x : S53) (c : List Value) (h : k53.M w b ok x c) : k53.M w' b' ok' x c := h
theorem grid_Board_Up_KM (w : World) (b : Nat) (ok : Nat → Prop) (x : S53) (c : List Value) (h : k53.K w x c) : k53.M w b ok x c := h
/-- A board, a cell of the call's own in a box, behind some steps. -/
structure grid_Board_Up_St (w0 w : World) (P : Nat → Prop) (g gb : Nat) (rows cols : Int) (cell : Array Value) (u : Value) (l : List S53) (wr : World) : Prop where
 row : Kd.R k53 53 wr w0.heap.size (fun k_ => (P k_ ∨ w.heap.size ≤ k_) ∧ k_ ≠ gb) u l
 blk : wr.heap[g]? = some (.cells #[.int .i64 rows, .int .i64 cols, u] 112 (0, 0))
 box : wr.heap[gb]? = some (.cells cell 53 (0, 0))
 kept : Kept w wr (fun k_ => P k_ ∨ k_ = g)
 below : Below w0.heap.size w0 wr
 new : w.heap.size ≤ gb ∧ gb ≠ g ∧ w0.heap.size ≤ g
theorem grid_Board_Up_St.drewN {w0 w wr : World} {P : Nat → Prop} {g gb : Nat} {rows cols : Int} {cell : Array Value} {u : Value} {l : List S53} (h : grid_Board_Up_St w0 w P g gb rows cols cell u l wr) (m : Nat) : grid_Board_Up_St w0 w P g gb rows cols cell u l (wr.drewN m) :=
 ⟨Kd.R_drewN h.row m, blk_drewN h.blk m, blk_drewN h.box m, h.kept.drewN m, pw_below_drewN h.below m, h.new⟩
theorem grid_Board_Up_St.then_ {w0 w wr w' : World} {P : Nat → Prop} {g gb : Nat} {rows cols rows' cols' : Int} {cell : Array Value} {u v : Value} {l l' : List S53} (h : grid_Board_Up_St w0 w P g gb rows cols cell u l wr)
  (hR : Kd.R k53 53 w' w0.heap.size (fun k_ => some k_ = u.ownBlock ∨ wr.heap.size ≤ k_) v l') (hb : w'.heap[g]? = some (.cells #[.int .i64 rows', .int .i64 cols', v] 112 (0, 0))) (hB : Below w0.heap.size w0 w') (hk : Kept wr w' (fun k_ => some k_ = u.ownBlock ∨ k_ = g)) :
  grid_Board_Up_St w0 w P g gb rows' cols' cell v l' w' := by
 have hgl : gb < wr.heap.size := blk_lt h.box
 refine ⟨Kd.R_mono hR (fun k hk1 => ?_), hb, blk_kept h.box hk (fun hs => ?_), h.kept.then_ hk (fun k hs => ?_), hB, h.new⟩
 ·rcases hk1 with e | e
  ·exact h.row.1 k e.symm
  ·exact ⟨.inr (Nat.le_trans h.kept.1 e), by omega⟩
 ·rcases hs with e | e
  ·exact (h.row.1 gb e.symm).2 rfl
  ·exact h.new.2.1 e
 ·rcases hs with e | e
  ·rcases (h.row.1 k e.symm).1 with p | p
   ·exact .inl (.inl p)
   ·exact .inr p
  ·exact .inl (.inr e)
theorem grid_Board_Up_St.region {w0 w wr : World} {P : Nat → Prop} {g gb : Nat} {rows cols : Int} {cell : Array Value} {u : Value} {l : List S53} (h : grid_Board_Up_St w0 w P g gb rows cols cell u l wr) (k : Nat) (a1 a2 a3 c0 c1 c2 c3 : Int) {t : Bool} {x y : Int} {l' : List S53} (hf : grid_Board_region.f k rows cols l a1 a2 a3 c0 c1 c2 c3 = some (t, x, y, l')) :
  Calls Try.prog 93 #[.pointer (some ⟨g, 0, none⟩), .int .i64 a1, .int .i64 a2, .int .i64 a3, .agg #[.int .i32 c0, .int .i64 c1, .int .i64 c2, .int .i64 c3]] wr fun e w' => e = .returned (.bool t) ∧ ∃ v, grid_Board_Up_St w0 w P g gb x y cell v l' w' := by
 refine (grid_Board_region.calls k g rows cols (fun k_ => some k_ = u.ownBlock) u l a1 a2 a3 c0 c1 c2 c3 t x y l' w0 wr h.blk h.new.2.2 h.below (Kd.R_tight rfl h.row) hf).mono ?_
 rintro e w' ⟨v, ⟨rfl, h1, h2, h3, h4⟩⟩
 exact ⟨rfl, v, h.then_ h1 h2 h3 h4⟩
theorem grid_Board_Up_St.fill {w0 w wr : World} {P : Nat → Prop} {g gb : Nat} {rows cols : Int} {cell : Array Value} {u : Value} {l : List S53} (h : grid_Board_Up_St w0 w P g gb rows cols cell u l wr) (k : Nat) (a1 a2 a3 c0 c1 c2 c3 : Int) {x y : Int} {l' : List S53} (hf : grid_Board_Fill.f k rows cols l a1 a2 a3 c0 c1 c2 c3 = some (x, y, l')) :
  Calls Try.prog 83 #[.pointer (some ⟨g, 0, none⟩), .int .i64 a1, .int .i64 a2, .int .i64 a3, .agg #[.int .i32 c0, .int .i64 c1, .int .i64 c2, .int .i64 c3]] wr fun e w' => e = .returned (.tuple #[]) ∧ ∃ v, grid_Board_Up_St w0 w P g gb x y cell v l' w' := by
 refine (grid_Board_Fill.calls k g rows cols (fun k_ => some k_ = u.ownBlock) u l a1 a2 a3 c0 c1 c2 c3 x y l' w0 wr h.blk h.new.2.2 h.below (Kd.R_tight rfl h.row) hf).mono ?_
 rintro e w' ⟨v, ⟨rfl, h1, h2, h3, h4⟩⟩
 exact ⟨rfl, v, h.then_ h1 h2 h3 h4⟩
theorem grid_Board_Up_St.copy {w0 w wr : World} {P : Nat → Prop} {g gb : Nat} {rows cols : Int} {cell : Array Value} {A : Option Addr} {n c : Nat} {l : List S53} (h : grid_Board_Up_St w0 w P g gb rows cols cell (.slice A n c) l wr) (d s m : Nat) (hm : 0 < m) (hd : d + m ≤ l.length) (hs : s + m ≤ l.length) :
  ∃ w2, (∀ ty, (Builtin.copy_ #[47, 47] ty #[.slice (if c = d then A else A.map (·.add (d * 4))) m (c - d), .slice (if c = s then A else A.map (·.add (s * 4))) m (c - s)]).run Try.prog wr = .ok (goInt m) w2) ∧ grid_Board_Up_St w0 w P g gb rows cols cell (.slice A n c) (l.take d ++ (l.take (s + m)).drop s ++ l.drop (d + m)) w2 := by
 obtain ⟨i0, hi0, _, hsz0, _⟩ := info_parts info53
 obtain ⟨hn, hnc, hC⟩ := Kd.R_reads' h.row
 subst hn
 have hC2 := Kd.C_mid (k := k53) (c := c) (lo := s) (hi := s + m) hC q5_23 hs hnc
 have hl2 : ((l.take (s + m)).drop s).length = m := by rw [List.length_drop, List.length_take]; omega
 rw [hl2] at hC2
 obtain ⟨w2, e1, e2, e3, e4⟩ := copy_own (P := Try.prog) (k := k53) grid_Board_Up_flat grid_Board_Up_KM (Kd.R_tight rfl h.row) hC2 (by decide) 47 47 Try.underlying47 hi0 hsz0 d m (c - d) m (c - s) (Nat.min_self m) hm hd _ rfl
 refine ⟨w2, e1, Kd.R_mono e2 (fun k hk => h.row.1 k hk.symm), (e4 g (.inl (fun e => Kd.R_ne h.row h.blk (by decide) e))).trans h.blk, (e4 gb (.inl (fun e => (h.row.1 gb e.symm).2 rfl))).trans h.box, h.kept.then_ (S2 := fun k_ => some k_ = (Value.slice A l.length c).ownBlock) ⟨Nat.le_of_eq e3.2.2.2.symm, fun i _ hi => e4 i (.inl hi)⟩ (fun k hk => (h.row.1 k hk.symm).1.imp .inl id), ?_, h.new⟩
 exact ⟨e3.1.trans h.below.os, e3.2.1.trans h.below.tape, e3.2.2.1.trans h.below.output, by rw [e3.2.2.2]; exact h.below.size, fun k hk => (e4 k (.inr hk)).trans (h.below.block k hk)⟩
theorem grid_Board_Up_St.drew {w0 w wr : World} {P : Nat → Prop} {g gb : Nat} {rows cols : Int} {cell : Array Value} {u : Value} {l : List S53} (h : grid_Board_Up_St w0 w P g gb rows cols cell u l wr) : grid_Board_Up_St w0 w P g gb rows cols cell u l wr.drew :=
 ⟨Kd.R_drew h.row, blk_drew h.blk, blk_drew h.box, h.kept.drew, below_drew1 h.below, h.new⟩

theorem grid_Board_Up_St.start {w0 w w1 : World} {P : Nat → Prop} {g gb : Nat} {rows cols : Int} {cell : Array Value} {u : Value} {l : List S53} (hb : w.heap[g]? = some (.cells #[.int .i64 rows, .int .i64 cols, u] 112 (0, 0))) (hg : w0.heap.size ≤ g) (hB : Below w0.heap.size w0 w) (ho : Kd.R k53 53 w w0.heap.size P u l) (hgb : gb = w.heap.size) (hbx : w1.heap[gb]? = some (.cells cell 53 (0, 0))) (hbl : Below w.heap.size w w1) : grid_Board_Up_St w0 w P g gb rows cols cell u l w1 :=
 ⟨Kd.R_below (Kd.R_elderB (Kd.R_mono ho (fun k_ hk_ => .inl hk_)) gb (Nat.le_of_eq hgb.symm)) hbl, blk_below hb hbl, hbx, Kept.of_below hbl _, below_step hB hbl, by omega, by have := blk_lt hb; omega, hg⟩
theorem grid_Board_Up_rows {r rows cols : Int} {n : Nat} (h0 : 0 ≤ r) (h1 : r < rows) (h2 : rows ≤ 10000) (h3 : 1 ≤ cols) (h4 : cols ≤ 10000) (hl : (n : Int) = rows * cols) : 0 ≤ r * cols ∧ r * cols + cols ≤ n ∧ (r + 1) * cols = r * cols + cols ∧ r * cols + cols ≤ 100000000 := by
 have a1 : 0 ≤ r * cols := Int.mul_nonneg h0 q5_23
 have a2 : (r + 1) * cols = r * cols + cols := by rw [Int.add_mul, Int.one_mul]
 have a3 : (r + 1) * cols ≤ rows * cols := Int.mul_le_mul_of_nonneg_right q5_23 q5_23
 have a4 : rows * cols ≤ 10000 * 10000 := Int.mul_le_mul h2 h4 q5_23 q5_23
 omega
theorem grid_Board_Up_St.line {w0 w wr : World} {P : Nat → Prop} {g gb : Nat} {rows cols : Int} {cell : Array Value} {A : Option Addr} {n c : Nat} {l : List S53} (h : grid_Board_Up_St w0 w P g gb rows cols cell (.slice A n c) l wr) (r : Int) (h0 : 0 ≤ r) (h1 : r < rows) (h2 : rows ≤ 10000) (h3 : 1 ≤ cols) (h4 : cols ≤ 10000) (hl : (l.length : Int) = rows * cols) :
  Calls Try.prog 77 #[.pointer (some ⟨g, 0, none⟩), .int .i64 r] wr fun e w' => e = .returned (.slice (if c = (r * cols).toNat then A else A.map (·.add ((r * cols).toNat * 4))) cols.toNat (c - (r * cols).toNat)) ∧ ∃ m, w' = wr.drewN m := by
 obtain ⟨i0, hi0, _, hsz0, _⟩ := info_parts info53
 obtain ⟨hn, hnc, hC⟩ := Kd.R_reads' h.row
 subst hn
 obtain ⟨b1, b2, b3, b4⟩ := grid_Board_Up_rows h0 h1 h2 h3 h4 hl
 have hc := grid_Board_Up_line.calls g rows cols A l.length c r wr h.blk (r * cols) (r * cols + cols) (by unfold wrap64; omega) (by rw [show wrap64 (r + 1) = r + 1 by unfold wrap64; omega, b3]; unfold wrap64; omega) b1 q5_23 b2 hnc hi0 hsz0
 rw [show (r * cols + cols).toNat - (r * cols).toNat = cols.toNat by omega] at hc
 exact hc
def grid_Board_Up_copy (l : List S53) (d s m : Nat) : List S53 := l.take d ++ (l.take (s + m)).drop s ++ l.drop (d + m)
theorem grid_Board_Up_copy_length (l : List S53) (d s m : Nat) (hd : d + m ≤ l.length) (hs : s + m ≤ l.length) : (grid_Board_Up_copy l d s m).length = l.length := by
 simp only [grid_Board_Up_copy, List.length_append, List.length_take, List.length_drop]
 omega
theorem grid_Board_Up_St.move {w0 w wr : World} {P : Nat → Prop} {g gb : Nat} {rows cols : Int} {cell : Array Value} {u : Value} {l : List S53} (h : grid_Board_Up_St w0 w P g gb rows cols cell u l wr) (r s : Int) (h0 : 0 ≤ r) (h1 : r < rows) (hs0 : 0 ≤ s) (hs1 : s < rows) (h2 : rows ≤ 10000) (h3 : 1 ≤ cols) (h4 : cols ≤ 10000) (hl : (l.length : Int) = rows * cols) :
  (grid_Board_Up_copy l (r * cols).toNat (s * cols).toNat cols.toNat).length = l.length ∧ ∃ (A1 A2 : Option Addr) (M c1 c2 : Nat), Calls Try.prog 77 #[.pointer (some ⟨g, 0, none⟩), .int .i64 r] wr (fun e w' => e = .returned (.slice A1 M c1) ∧ ∃ m, w' = wr.drewN m) ∧ (∀ m, Calls Try.prog 77 #[.pointer (some ⟨g, 0, none⟩), .int .i64 s] (wr.drewN m) (fun e w' => e = .returned (.slice A2 M c2) ∧ ∃ m2, w' = (wr.drewN m).drewN m2)) ∧
   ∀ m, ∃ w2, (∀ ty, (Builtin.copy_ #[47, 47] ty #[.slice A1 M c1, .slice A2 M c2]).run Try.prog (wr.drewN m) = .ok (goInt M) w2) ∧ grid_Board_Up_St w0 w P g gb rows cols cell u (grid_Board_Up_copy l (r * cols).toNat (s * cols).toNat cols.toNat) w2 := by
 obtain ⟨A, c, rfl⟩ := Kd.R_slice h.row
 obtain ⟨d1, d2, d3, d4⟩ := grid_Board_Up_rows h0 h1 h2 h3 h4 hl
 obtain ⟨e1, e2, e3, e4⟩ := grid_Board_Up_rows hs0 hs1 h2 h3 h4 hl
 exact ⟨grid_Board_Up_copy_length l _ _ _ q5_23 q5_23, _, _, _, _, _, h.line r h0 h1 h2 h3 h4 hl, fun m => (h.drewN m).line s hs0 hs1 h2 h3 h4 hl, fun m => (h.drewN m).copy (r * cols).toNat (s * cols).toNat cols.toNat q5_23 q5_23 q5_23⟩
def grid_Board_Up.loop (k : Nat) (rows cols bottom n c0 c1 c2 c3 : Int) : Nat → Int → List S53 → Option (List S53)
 | 0, _, l => some l
 | j + 1, r, l => if r + n ≤ bottom then grid_Board_Up.loop k rows cols bottom n c0 c1 c2 c3 j (r + 1) (grid_Board_Up_copy l (r * cols).toNat ((r + n) * cols).toNat cols.toNat) else (grid_Board_Fill.f k rows cols l r 0 cols c0 c1 c2 c3).bind fun t => if t.1 = rows ∧ t.2.1 = cols ∧ t.2.2.length = l.length then grid_Board_Up.loop k rows cols bottom n c0 c1 c2 c3 j (r + 1) t.2.2 else none
def grid_Board_Up.f (k : Nat) (a0_0 a0_1 : Int) (l0_2 : List S53) (a1 a2 a3 : Int) (a4_0 a4_1 a4_2 a4_3 : Int) : Option (Int × Int × List S53) :=
 (grid_Board_region.f k a0_0 a0_1 l0_2 a1 a2 a3 a4_0 a4_1 a4_2 a4_3).bind fun t => if t.1 = true then (if 0 ≤ a1 ∧ a1 ≤ a2 ∧ a2 < t.2.1 ∧ 1 ≤ a3 ∧ t.2.1 ≤ 10000 ∧ 1 ≤ t.2.2.1 ∧ t.2.2.1 ≤ 10000 ∧ (t.2.2.2.length : Int) = t.2.1 * t.2.2.1 then (grid_Board_Up.loop k t.2.1 t.2.2.1 a2 (mn a3 (a2 - a1 + 1)) a4_0 a4_1 a4_2 a4_3 (a2 - a1 + 1).toNat a1 t.2.2.2).bind fun l => some (t.2.1, t.2.2.1, l) else none) else some (t.2.1, t.2.2.1, t.2.2.2)
theorem grid_Board_Up.mono_l (k : Nat) (rows cols bottom n c0 c1 c2 c3 : Int) : ∀ j r l, LeO (grid_Board_Up.loop k rows cols bottom n c0 c1 c2 c3 j r l) (grid_Board_Up.loop (k + 1) rows cols bottom n c0 c1 c2 c3 j r l)
 | 0, _, _ => LeO.refl _
 | j + 1, r, l => by
  unfold grid_Board_Up.loop
  exact LeO.ite (grid_Board_Up.mono_l k rows cols bottom n c0 c1 c2 c3 j _ _) (LeO.bind (grid_Board_Fill.mono _ _ _ _ _ _ _ _ _ _ _) (fun _ => LeO.ite (grid_Board_Up.mono_l k rows cols bottom n c0 c1 c2 c3 j _ _) (LeO.none _)))
theorem grid_Board_Up.mono : ∀ a0 a1 a2 a3 a4 a5 a6 a7 a8 a9 k, LeO (grid_Board_Up.f k a0 a1 a2 a3 a4 a5 a6 a7 a8 a9) (grid_Board_Up.f (k + 1) a0 a1 a2 a3 a4 a5 a6 a7 a8 a9) := by
 intro a0 a1 a2 a3 a4 a5 a6 a7 a8 a9 k
 unfold grid_Board_Up.f
 exact LeO.bind (grid_Board_region.mono _ _ _ _ _ _ _ _ _ _ _) (fun _ => LeO.ite (LeO.ite (LeO.bind (grid_Board_Up.mono_l _ _ _ _ _ _ _ _ _ _ _ _) (fun _ => LeO.refl _)) (LeO.none _)) (LeO.refl _))
def grid_Board_Up.T8 : Bool × List (List Nat × List Nat) := (true, [([], []), ([], []), ([], []), ([2], [2]), ([3], [3]), ([4], [4]), ([], []), ([0, 1, 5, 6], [0, 1, 5, 6])])
def grid_Board_Up.B8 : List Nat := [0, 0, 0, 4, 12, 28, 0, 127]
theorem grid_Board_Up.tab8 : rtab .any (opsOf Try.f73 8) = grid_Board_Up.T8 := by kernel_rfl
theorem grid_Board_Up.bits8 : waitsOk grid_Board_Up.T8.2 grid_Board_Up.B8 = true := by kernel_rfl
set_option maxHeartbeats 8000000 in
set_option maxRecDepth 100000 in
theorem grid_Board_Up.calls (k : Nat) (g : Nat) (a0_0 : Int) (a0_1 : Int) (P0_2_ : Nat → Prop) (u9000_ : Value) (l0_2 : List (S53)) (a1 : Int) (a2 : Int) (a3 : Int) (a4_0 : Int) (a4_1 : Int) (a4_2 : Int) (a4_3 : Int) (r1 : Int) (r2 : Int) (r3 : List (S53)) (w0 w : World) (hb : w.heap[g]? = some (.cells #[.int .i64 a0_0, .int .i64 a0_1, u9000_] 112 (0, 0))) (hg : w0.heap.size ≤ g) (hB : Below w0.heap.size w0 w) (ho0_2 : Kd.R k53 53 w w0.heap.size P0_2_ u9000_ l0_2) (h : grid_Board_Up.f k a0_0 a0_1 l0_2 a1 a2 a3 a4_0 a4_1 a4_2 a4_3 = some (r1, r2, r3)) :
  Calls Try.prog 73 #[.pointer (some ⟨g, 0, none⟩), .int .i64 a1, .int .i64 a2, .int .i64 a3, .agg #[.int .i32 a4_0, .int .i64 a4_1, .int .i64 a4_2, .int .i64 a4_3]] w fun e w' => ∃ v2_ : Value, Aside0 (e = .returned (.tuple #[]) ∧ Kd.R k53 53 w' w0.heap.size (fun k_ => (P0_2_ k_ ∨ w.heap.size ≤ k_)) v2_ r3 ∧ w'.heap[g]? = some (.cells #[.int .i64 r1, .int .i64 r2, v2_] 112 (0, 0)) ∧ Below w0.heap.size w0 w' ∧ Kept w w' (fun k_ => (P0_2_ k_) ∨ k_ = g)) := by
 unfold grid_Board_Up.f at h
 obtain ⟨⟨t, x, y, l⟩, hreg, h⟩ := Option.bind_eq_some_iff.mp h
 have HST := A5_ (fun (gb : Nat) (w1 : World) (hgb : gb = w.heap.size) (hbx : w1.heap[gb]? = some (.cells #[.int .i32 a4_0, .int .i64 a4_1, .int .i64 a4_2, .int .i64 a4_3] 53 (0, 0))) (hbl : Below w.heap.size w w1) => grid_Board_Up_St.start hb hg hB ho0_2 hgb hbx hbl)
 have HREG := A5_ hreg
 have hfin : ∀ (gb : Nat) (u : Value) (rows cols : Int) (l' : List S53) (wr : World), grid_Board_Up_St w0 w P0_2_ g gb rows cols #[.int .i32 a4_0, .int .i64 a4_1, .int .i64 a4_2, .int .i64 a4_3] u l' wr → ∃ v2_ : Value, (Kd.R k53 53 wr w0.heap.size (fun k_ => (P0_2_ k_ ∨ w.heap.size ≤ k_)) v2_ l' ∧ wr.heap[g]? = some (.cells #[.int .i64 rows, .int .i64 cols, v2_] 112 (0, 0)) ∧ Below w0.heap.size w0 wr ∧ Kept w wr (fun k_ => (P0_2_ k_) ∨ k_ = g)) := fun gb u rows cols l' wr h => ⟨u, Kd.R_mono h.row (fun _ hk => hk.1), h.blk, h.below, h.kept⟩
 have HFIN := A5_ hfin
 clear hreg hfin hb hg hB ho0_2
 cases t with
 | false =>
  have h2 : (some (x, y, l) : Option (Int × Int × List S53)) = some (r1, r2, r3) := h
  simp only [Option.some.injEq, Prod.mk.injEq] at h2
  obtain ⟨rfl, rfl, rfl⟩ := h2
  clear h
  go_enter Try.func73, Try.ntmps73
  go_wp2_with (first
   | ((with_reducible refine gate_dst (N := 9) rfl ?_); refine box_event ?hg (N := 9) ?hd (cs := #[.int .i32 a4_0, .int .i64 a4_1, .int .i64 a4_2, .int .i64 a4_3]) (t := 53) ?hr ?_; (case hd => rfl); (case hg => rfl); (case hr => first | (go_simp; done) | (go_simp; rfl)); intro gb hgb w1 hbx hbl; have HS := A5_ (HST.out gb w1 hgb hbx hbl); have hcz0 : w1.cell? ⟨gb, 0, none⟩ = some (.int .i32 a4_0) := (blk_cell hbx 0).trans rfl; have hcz1 : w1.cell? ⟨gb, 1, none⟩ = some (.int .i64 a4_1) := (blk_cell hbx 1).trans rfl; have hcz2 : w1.cell? ⟨gb, 2, none⟩ = some (.int .i64 a4_2) := (blk_cell hbx 2).trans rfl; have hcz3 : w1.cell? ⟨gb, 3, none⟩ = some (.int .i64 a4_3) := (blk_cell hbx 3).trans rfl; clear hgb hbx hbl)
   | (go_at_call 93; refine (HS.out.region k a1 a2 a3 a4_0 a4_1 a4_2 a4_3 HREG.out).mono ?_; rintro e w2 ⟨rfl, v2, hS2⟩; have HS2 := A5_ hS2; clear hS2))
  first | ((try simp only [Exit.inBlock, Exit.then]); refine bodyPost_ret (results_none rfl _ _ _) rfl ?_) | go_end0
  obtain ⟨v, hv⟩ := HFIN.out _ _ _ _ _ _ HS2.out
  exact ⟨v, ⟨rfl, hv⟩⟩
 | true =>
  have h2 : (if 0 ≤ a1 ∧ a1 ≤ a2 ∧ a2 < x ∧ 1 ≤ a3 ∧ x ≤ 10000 ∧ 1 ≤ y ∧ y ≤ 10000 ∧ (l.length : Int) = x * y then (grid_Board_Up.loop k x y a2 (mn a3 (a2 - a1 + 1)) a4_0 a4_1 a4_2 a4_3 (a2 - a1 + 1).toNat a1 l).bind fun l => some (x, y, l) else none) = some (r1, r2, r3) := h
  clear h
  split at h2
  ·rename_i hc
   obtain ⟨hc1, hc2, hc3, hc4, hc5, hc6, hc7, hc8⟩ := hc
   obtain ⟨lf, hloop, h3⟩ := Option.bind_eq_some_iff.mp h2
   simp only [Option.some.injEq, Prod.mk.injEq] at h3
   obtain ⟨rfl, rfl, rfl⟩ := h3
   obtain ⟨nn, hnn⟩ : ∃ n, n = mn a3 (a2 - a1 + 1) := ⟨_, rfl⟩
   rw [← hnn] at hloop
   have hn1 : 1 ≤ nn ∧ nn ≤ 10000 := by rw [hnn]; unfold mn; split <;> omega
   have hw1 : wrap64 (a2 - a1) = a2 - a1 := by unfold wrap64; omega
   have hw2 : wrap64 (a2 - a1 + 1) = a2 - a1 + 1 := by unfold wrap64; omega
   have hmn : (if a2 - a1 + 1 < a3 then a2 - a1 + 1 else a3) = nn := hnn.symm
   have HL := A5_ hloop
   have HN := A5_ hn1
   have HC := A5_ (And.intro hc1 (And.intro hc2 (And.intro hc3 (And.intro hc5 (And.intro hc6 (And.intro hc7 hc8))))))
   clear hloop h2 hc4 hnn hn1 hc1 hc2 hc3 hc5 hc6 hc7 hc8
   go_enter Try.func73, Try.ntmps73
   go_wp2_with (first
    | ((with_reducible refine gate_dst (N := 9) rfl ?_); refine box_event ?hg (N := 9) ?hd (cs := #[.int .i32 a4_0, .int .i64 a4_1, .int .i64 a4_2, .int .i64 a4_3]) (t := 53) ?hr ?_; (case hd => rfl); (case hg => rfl); (case hr => first | (go_simp; done) | (go_simp; rfl)); intro gb hgb w1 hbx hbl; have HS := A5_ (HST.out gb w1 hgb hbx hbl); have hcz0 : w1.cell? ⟨gb, 0, none⟩ = some (.int .i32 a4_0) := (blk_cell hbx 0).trans rfl; have hcz1 : w1.cell? ⟨gb, 1, none⟩ = some (.int .i64 a4_1) := (blk_cell hbx 1).trans rfl; have hcz2 : w1.cell? ⟨gb, 2, none⟩ = some (.int .i64 a4_2) := (blk_cell hbx 2).trans rfl; have hcz3 : w1.cell? ⟨gb, 3, none⟩ = some (.int .i64 a4_3) := (blk_cell hbx 3).trans rfl; clear hgb hbx hbl)
    | (go_at_call 93; refine (HS.out.region k a1 a2 a3 a4_0 a4_1 a4_2 a4_3 HREG.out).mono ?_; rintro e w2 ⟨rfl, v2, hS2⟩; have HS2 := A5_ hS2; clear hS2))
   clear hw1 hw2 hmn
   go_loopg [10] ((a2 - a1 + 1).toNat + 1) (fun kq v10 wr => ∃ (z : Int) (l1 : List S53) (u1 : Value), v10 = .int .i64 z ∧ Aside0 (grid_Board_Up.loop k x y a2 nn a4_0 a4_1 a4_2 a4_3 (kq - 1) z l1 = some lf ∧ z + ((kq : Nat) : Int) = a2 + 2 ∧ 1 ≤ kq ∧ a1 ≤ z ∧ l1.length = l.length) ∧ Aside0 (grid_Board_Up_St w0 w P0_2_ g gb x y #[.int .i32 a4_0, .int .i64 a4_1, .int .i64 a4_2, .int .i64 a4_3] u1 l1 wr))
   case atStart => exact ⟨a1, l, _, rfl, ⟨by rw [Nat.add_sub_cancel]; exact HL.out, by have := HC.out; omega, by omega, Int.le_refl _, rfl⟩, ⟨HS2.out⟩⟩
   case round =>
    obtain ⟨z, l1, u1, rfl, HQ, HS3⟩ := hrel
    obtain ⟨hlo, hz, hq1, haz, hll⟩ := HQ.out
    cases gk with
    | zero => omega
    | succ j =>
     rw [Nat.add_sub_cancel] at hlo
     cases j with
     | zero =>
      have hib : decide (z ≤ a2) = false := decide_eq_false q5_23
      have hlf : l1 = lf := Option.some.inj hlo
      subst hlf; clear hlo hz hq1 haz hll
      go_wp2
      first | ((try simp only [Exit.inBlock, Exit.then]); refine bodyPost_ret (results_none rfl _ _ _) rfl ?_) | go_end0
      obtain ⟨v, hv⟩ := HFIN.out _ _ _ _ _ _ HS3.out
      exact ⟨v, ⟨rfl, hv⟩⟩
     | succ j =>
      have hib : decide (z ≤ a2) = true := decide_eq_true q5_23
      obtain ⟨hc1, hc2, hc3, hc5, hc6, hc7, hc8⟩ := HC.out
      have hn1 := HN.out
      have hzn : wrap64 (z + nn) = z + nn := by unfold wrap64; omega
      have hz1 : wrap64 (z + 1) = z + 1 := by unfold wrap64; omega
      unfold grid_Board_Up.loop at hlo
      split at hlo
      ·rename_i hle
       have hleb : decide (z + nn ≤ a2) = true := decide_eq_true hle
       have hl8 : (l1.length : Int) = x * y := by rw [hll]; exact hc8
       obtain ⟨hgl, A1, A2, M, d1, d2, hline1, hline2, hcopy⟩ := HS3.out.move z (z + nn) q5_23 q5_23 q5_23 q5_23 hc5 hc6 hc7 hl8
       have HG := A5_ hgl
       have HLO := A5_ hlo
       have HL1 := A5_ hline1
       have HL2 := A5_ hline2
       have HCP := A5_ hcopy
       clear hlo hgl hl8 hc1 hc2 hc3 hc5 hc6 hc7 hc8 hn1 hline1 hline2 hcopy hz hq1 haz hll
       go_wp2_with (first
        | (go_at_call 77; with_reducible refine (HL2.out m1).mono ?_; rintro e w4 ⟨rfl, m2, rfl⟩; obtain ⟨w5, hrun, hS5⟩ := HCP.out (m1 + m2); have HS5 := A5_ hS5; clear hS5)
        | (go_at_call 77; with_reducible refine HL1.out.mono ?_; rintro e w3 ⟨rfl, m1, rfl⟩))
       go_roundg (j + 1)
       case measure => have := HQ.out; omega
       case rel =>
        exact ⟨z + 1, _, _, by rw [hz1], ⟨HLO.out, by have := HQ.out; omega, by omega, by have := HQ.out; omega, by rw [HG.out]; exact HQ.out.2.2.2.2⟩, ⟨HS5.out⟩⟩
      ·rename_i hle
       have hleb : decide (z + nn ≤ a2) = false := decide_eq_false hle
       obtain ⟨⟨x', y', l2⟩, hfl, hlo2⟩ := Option.bind_eq_some_iff.mp hlo
       have hlo3 : (if x' = x ∧ y' = y ∧ l2.length = l1.length then grid_Board_Up.loop k x y a2 nn a4_0 a4_1 a4_2 a4_3 j (z + 1) l2 else none) = some lf := hlo2
       clear hlo hlo2
       split at hlo3
       ·rename_i hsame
        obtain ⟨rfl, rfl, hl2⟩ := hsame
        have HG := A5_ hl2
        have HLO := A5_ hlo3
        have HS4 := A5_ HS3.out.drew
        have HF := A5_ (HS4.out.fill k z 0 y' a4_0 a4_1 a4_2 a4_3 hfl)
        clear hlo3 hl2 hfl hc1 hc2 hc3 hc5 hc6 hc7 hc8 hn1 hz hq1 haz hll
        go_wp2
        refine start_ (n := 8) (S := fun w' => w'.cell? ⟨g, 1, none⟩ = some (.int .i64 y') ∧ w'.cell? ⟨gb, 0, none⟩ = some (.int .i32 a4_0) ∧ w'.cell? ⟨gb, 1, none⟩ = some (.int .i64 a4_1) ∧ w'.cell? ⟨gb, 2, none⟩ = some (.int .i64 a4_2) ∧ w'.cell? ⟨gb, 3, none⟩ = some (.int .i64 a4_3)) (ds := [7]) #[false, false, false, false, false, false, false, false] q5_15 rfl rfl ⟨(blk_cell HS4.out.blk 1).trans rfl, (blk_cell HS4.out.box 0).trans rfl, (blk_cell HS4.out.box 1).trans rfl, (blk_cell HS4.out.box 2).trans rfl, (blk_cell HS4.out.box 3).trans rfl⟩ (fun hHeld => ?_); refine with_tabW grid_Board_Up.tab8 grid_Board_Up.bits8 (fun HT_ HW_ => ?_)
        refine pure_ (i := 0) (N := some 44) (v := ?_) (a' := ?_) #[true, false, false, false, false, false, false, false] rfl rfl (any_of HT_.out q5_15) (fun _ _ _ h => h) (Or.inl ⟨by rfl, ?_⟩) ?_ ?_
        rotate_left; · intro w'; go_simp; with_reducible rfl
        rotate_left; · simp only [Act.put, setIfInBounds_toArray, set_cons_zero, set_cons_succ, i64_w, i32_w]; rfl
        refine pure_ (i := 1) (N := some 45) (v := ?_) (a' := ?_) #[true, true, false, false, false, false, false, false] rfl rfl (any_of HT_.out q5_15) (fun _ _ _ h => h) (Or.inl ⟨by rfl, ?_⟩) ?_ ?_
        rotate_left; · intro w'; go_simp; with_reducible rfl
        rotate_left; · simp only [Act.put, setIfInBounds_toArray, set_cons_zero, set_cons_succ, i64_w, i32_w]; rfl
        refine pure_ (i := 2) (N := some 46) (v := ?_) (a' := ?_) #[true, true, true, false, false, false, false, false] rfl rfl (any_of HT_.out q5_15) (fun _ _ _ h => h) (Or.inl ⟨by rfl, ?_⟩) ?_ ?_
        rotate_left; · intro w'; go_simp; with_reducible rfl
        rotate_left; · simp only [Act.put, setIfInBounds_toArray, set_cons_zero, set_cons_succ, i64_w, i32_w]; rfl
        refine pure_ (i := 3) (N := some 47) (v := ?_) (a' := ?_) #[true, true, true, true, false, false, false, false] rfl rfl (any_of HT_.out q5_15) (fun _ _ _ h => h) (Or.inl ⟨by rfl, ?_⟩) ?_ ?_
        rotate_left; · intro w'; go_simp; with_reducible rfl
        rotate_left; · simp only [Act.put, setIfInBounds_toArray, set_cons_zero, set_cons_succ, i64_w, i32_w]; rfl
        refine pure_ (i := 4) (N := some 48) (v := ?_) (a' := ?_) #[true, true, true, true, true, false, false, false] rfl rfl (any_of HT_.out q5_15) (fun _ _ _ h => h) (Or.inl ⟨by rfl, ?_⟩) ?_ ?_
        rotate_left; · intro w'; go_simp; with_reducible rfl
        rotate_left; · simp only [Act.put, setIfInBounds_toArray, set_cons_zero, set_cons_succ, i64_w, i32_w]; rfl
        refine take_ (i := 5) (N := some 49) (v := ?_) (a' := ?_) #[true, true, true, true, true, true, false, false] rfl rfl (take_ofW HT_.out HW_.out q5_15) (fun _ _ _ h => h) (Or.inl ⟨by rfl, ?_⟩) hHeld ?_ ?_
        rotate_left; · rintro w' ⟨s0, s1, s2, s3, s4⟩; go_simp; with_reducible rfl
        rotate_left; · simp only [Act.put, setIfInBounds_toArray, set_cons_zero, set_cons_succ, i64_w, i32_w]; rfl
        refine take_ (i := 6) (N := some 50) (v := ?_) (a' := ?_) #[true, true, true, true, true, true, true, false] rfl rfl (take_ofW HT_.out HW_.out q5_15) (fun _ _ _ h => h) (Or.inl ⟨by rfl, ?_⟩) hHeld ?_ ?_
        rotate_left; · rintro w' ⟨s0, s1, s2, s3, s4⟩; go_simp; with_reducible rfl
        rotate_left; · simp only [Act.put, setIfInBounds_toArray, set_cons_zero, set_cons_succ, i64_w, i32_w]; rfl
        refine last_ (i := 7) (N := some 51) #[true, true, true, true, true, true, true, true] rfl rfl (one_of HT_.out q5_15) (by decide) (fun K hK => ?_)
        refine goes_ Try.func83 q5_15 rfl #[.pointer (some ⟨g, 0, none⟩), .int .i64 z, .int .i64 0, .int .i64 y', .agg #[.int .i32 a4_0, .int .i64 a4_1, .int .i64 a4_2, .int .i64 a4_3]] (by rfl) rfl rfl (by (try simp only [List.map_toArray, List.map_cons, List.map_nil]); first | done | rfl) ?_
        refine HF.out.mono ?_
        rintro e w5 ⟨rfl, v5, hS5⟩
        refine ⟨_, rfl, ?_⟩
        have HS5 := A5_ hS5
        clear hS5
        refine hK.out _ _ ?_
        clear hK K
        refine done_ (done_of HT_.out q5_15) ?_
        go_wp2
        go_roundg (j + 1)
        case measure => have := HQ.out; omega
        case rel =>
         exact ⟨z + 1, _, _, by rw [hz1], ⟨HLO.out, by have := HQ.out; omega, by omega, by have := HQ.out; omega, by rw [HG.out]; exact HQ.out.2.2.2.2⟩, ⟨HS5.out⟩⟩
       ·cases hlo3
  ·cases h2

/-! ### batonref10_Blank: function 74 -/
def batonref10_Blank.f  : Option (Int × Int × Int × Int) := some (32, 0, 0, 0)
set_option maxHeartbeats 8000000 in
set_option maxRecDepth 100000 in
theorem batonref10_Blank.calls  (r1 : Int) (r2 : Int) (r3 : Int) (r4 : Int) (w : World) (h : batonref10_Blank.f  = some (r1, r2, r3, r4)) :
  Calls Try.prog 74 #[] w fun e w' => e = .returned (.agg #[.int .i32 r1, .int .i64 r2, .int .i64 r3, .int .i64 r4]) ∧ Below w.heap.size w w' := by
 have hu53 := Try.underlying53
 have HB := A5_ (Below.refl w.heap.size w)
 have H : (some (32, 0, 0, 0)) = some (r1, r2, r3, r4) := h
 clear h
 simp only [Option.some.injEq, Prod.mk.injEq] at H
 obtain ⟨rfl, rfl, rfl, rfl⟩ := H
 go_enter Try.func74, Try.ntmps74
 go_wp2_with (first | ((with_reducible refine gate_dst (N := 0) rfl ?_); refine box_event ?hg (N := 0) ?hd (cs := #[.int .i32 0, .int .i64 0, .int .i64 0, .int .i64 0]) (t := 53) ?hr ?_; (case hd => rfl); (case hg => rfl); (case hr => first | (go_simp; done) | (go_simp; rfl)); intro gb156 hg w1 hbox hb; have n0_ := A5_ (below_step q5_3 hb); have n1_ := A5_ (hbox); have n2_ := A5_ ((by rw [hg]; exact (below_size q5_3) : w.heap.size ≤ gb156)); have n3_ := A5_ ((by rw [hg]; exact (below_size q5_3) : w.heap.size ≤ gb156)); clear HB; have HB := n0_; have BK156 := n1_; have GW156 := n2_; have GE156 := n3_; clear n0_ n1_ n2_ n3_; clear hb hbox hg; have hcz2_0 : w1.cell? ⟨gb156, 0, none⟩ = some (.int .i32 0) := bc5_ BK156 0; have hcz2_1 : w1.cell? ⟨gb156, 1, none⟩ = some (.int .i64 0) := bc5_ BK156 1; have hcz2_2 : w1.cell? ⟨gb156, 2, none⟩ = some (.int .i64 0) := bc5_ BK156 2; have hcz2_3 : w1.cell? ⟨gb156, 3, none⟩ = some (.int .i64 0) := bc5_ BK156 3; have hfz2_0 := blk_frozen BK156.out 0; have hfz2_1 := blk_frozen BK156.out 1; have hfz2_2 := blk_frozen BK156.out 2; have hfz2_3 := blk_frozen BK156.out 3))
 refine bodyPost_ret (results_cell_row rfl _ _ gb156 53 #[.int .i32 32, .int .i64 0, .int .i64 0, .int .i64 0] (0, 0) _ rfl (by (with_reducible repeat (first | refine blk_drewN ?_ _ | refine blk_drew ?_ | refine blk_alloc ?_ _)); refine blk_put (cs := #[.int .i32 32, .int .i64 0, .int .i64 0, .int .i64 0]) ?_ 3 _ rfl; (with_reducible repeat (first | refine blk_drewN ?_ _ | refine blk_drew ?_ | refine blk_alloc ?_ _)); refine blk_put (cs := #[.int .i32 32, .int .i64 0, .int .i64 0, .int .i64 0]) ?_ 2 _ rfl; (with_reducible repeat (first | refine blk_drewN ?_ _ | refine blk_drew ?_ | refine blk_alloc ?_ _)); refine blk_put (cs := #[.int .i32 32, .int .i64 0, .int .i64 0, .int .i64 0]) ?_ 1 _ rfl; (with_reducible repeat (first | refine blk_drewN ?_ _ | refine blk_drew ?_ | refine blk_alloc ?_ _)); refine blk_put (cs := #[.int .i32 0, .int .i64 0, .int .i64 0, .int .i64 0]) ?_ 0 _ rfl; (with_reducible repeat (first | refine blk_drewN ?_ _ | refine blk_drew ?_ | refine blk_alloc ?_ _)); exact BK156.out) Try.underlying53 rfl q5_15) rfl ?_
 exact ⟨by first | rfl | (simp [errW_none, errW_some] <;> rfl) | (simp [*, errW_none, errW_some] <;> rfl), by repeat (first | (with_reducible first | exact HB.out | apply below_alloc | apply pw_below_drewN | apply below_drew1 | refine below_set ?_ GE156.out) | exact HB.out)⟩

/-! ### batonlaw10_awake: function 46 -/
def batonlaw10_awake.j0 : Nat → Bool → Int → Int → List (S53) → Option (Bool)
 | 0, _, _, _, _ => none
 | k + 1, x13, x164000, x164001, x164002 => if x13 = true then (some false) else ((grid_Board_Put.f k x164000 x164001 x164002 0 0 97 0 0 0).bind fun bt165 => ((grid_Board_Put.f k bt165.2.1 bt165.2.2.1 bt165.2.2.2 1 0 98 0 0 0).bind fun bt171 => ((grid_Board_Put.f k bt171.2.1 bt171.2.2.1 bt171.2.2.2 2 0 99 0 0 0).bind fun bt177 => ((batonref10_Blank.f).bind fun bt183 => ((grid_Board_Up.f k bt177.2.1 bt177.2.2.1 bt177.2.2.2 0 1 1 bt183.1 bt183.2.1 bt183.2.2.1 bt183.2.2.2).bind fun bt187 => ((grid_Board_Grid.f bt187.1 bt187.2.1 bt187.2.2).bind fun bt192 => (if (bt192.2.2.1.length : Int) = 3 then (if 0 < (bt192.2.2.1.length : Int) then (if ((rd_T53 bt192.2.2.1 0).f0) = 98 then (if 1 < (bt192.2.2.1.length : Int) then (if ((rd_T53 bt192.2.2.1 1).f0) = 32 then (if 2 < (bt192.2.2.1.length : Int) then (some (((rd_T53 bt192.2.2.1 2).f0) == 99)) else (none)) else (some false)) else (none)) else (some false)) else (none)) else (some false))))))))
def batonlaw10_awake.f (k : Nat)  : Option (Bool) := (grid_New.f k 3 1).bind fun bt157 => (if bt157.1 = true then (if bt157.2.2.2.2 = 0 then (batonlaw10_awake.j0 k false bt157.2.1 bt157.2.2.1 bt157.2.2.2.1) else (batonlaw10_awake.j0 k true bt157.2.1 bt157.2.2.1 bt157.2.2.2.1)) else (if bt157.2.2.2.2 = 0 then (some false) else (some false)))
theorem batonlaw10_awake.mono_l : ∀ k, (∀ y0 y1 y2 y3, LeO (batonlaw10_awake.j0 k y0 y1 y2 y3) (batonlaw10_awake.j0 (k + 1) y0 y1 y2 y3))
 | 0 => fun _ _ _ _ r h => by simp [batonlaw10_awake.j0] at h
 | k + 1 => by
  have ih0 := batonlaw10_awake.mono_l k
  ·intro y0 y1 y2 y3
   unfold batonlaw10_awake.j0
   repeat' first
   | (with_reducible exact ih0 _ _ _ _)
   | (with_reducible exact grid_Board_Put.mono _ _ _ _ _ _ _ _ _ _)
   | (with_reducible exact grid_Board_Up.mono _ _ _ _ _ _ _ _ _ _ _)
   | (with_reducible exact grid_New.mono _ _ _)
   | (with_reducible exact LeO.refl _)
   | (with_reducible exact LeO.none _)
   | (with_reducible refine LeO.ite ?_ ?_)
   | (with_reducible refine LeO.bind ?_ (fun _ => ?_))
   | exact ih0 _ _ _ _
   | exact grid_Board_Put.mono _ _ _ _ _ _ _ _ _ _
   | exact grid_Board_Up.mono _ _ _ _ _ _ _ _ _ _ _
   | exact grid_New.mono _ _ _
   | exact LeO.none _
   | refine LeO.ite ?_ ?_
   | refine LeO.bind ?_ (fun _ => ?_)
theorem batonlaw10_awake.mono : ∀ k, LeO (batonlaw10_awake.f k ) (batonlaw10_awake.f (k + 1) ) := by
 intro  k
 have ih0 := batonlaw10_awake.mono_l k
 unfold batonlaw10_awake.f
 repeat' first
   | (with_reducible exact ih0 _ _ _ _)
   | (with_reducible exact grid_Board_Put.mono _ _ _ _ _ _ _ _ _ _)
   | (with_reducible exact grid_Board_Up.mono _ _ _ _ _ _ _ _ _ _ _)
   | (with_reducible exact grid_New.mono _ _ _)
   | (with_reducible exact LeO.refl _)
   | (with_reducible exact LeO.none _)
   | (with_reducible refine LeO.ite ?_ ?_)
   | (with_reducible refine LeO.bind ?_ (fun _ => ?_))
   | exact ih0 _ _ _ _
   | exact grid_Board_Put.mono _ _ _ _ _ _ _ _ _ _
   | exact grid_Board_Up.mono _ _ _ _ _ _ _ _ _ _ _
   | exact grid_New.mono _ _ _
   | exact LeO.none _
   | refine LeO.ite ?_ ?_
   | refine LeO.bind ?_ (fun _ => ?_)
set_option maxHeartbeats 8000000 in
set_option maxRecDepth 100000 in
theorem batonlaw10_awake.calls (k : Nat)  (r : Bool) (w : World) (h : batonlaw10_awake.f k  = some r) :
  Calls Try.prog 46 #[] w fun e w' => e = .returned (.bool r) ∧ Below w.heap.size w w' := by
 have hu53 := Try.underlying53
 have hu75 := Try.underlying75
 have HB := A5_ (Below.refl w.heap.size w)
 have H : ((grid_New.f k 3 1).bind fun bt157 => (if bt157.1 = true then (if bt157.2.2.2.2 = 0 then (batonlaw10_awake.j0 k false bt157.2.1 bt157.2.2.1 bt157.2.2.2.1) else (batonlaw10_awake.j0 k true bt157.2.1 bt157.2.2.1 bt157.2.2.2.1)) else (if bt157.2.2.2.2 = 0 then (some false) else (some false)))) = some r := h
 clear h
 replace H := Option.bind_eq_some_iff.mp H
 obtain ⟨⟨t157, t158, t159, t160, t164⟩, A10, H⟩ := H
 replace H : (if t157 = true then (if t164 = 0 then (batonlaw10_awake.j0 k false t158 t159 t160) else (batonlaw10_awake.j0 k true t158 t159 t160)) else (if t164 = 0 then (some false) else (some false))) = some r := H
 have A1 := A5_ A10
 clear A10
 by_cases c2 : t157 = true
 ·subst c2
  have H1 : (if t164 = 0 then (batonlaw10_awake.j0 k false t158 t159 t160) else (batonlaw10_awake.j0 k true t158 t159 t160)) = some r := by rw [if_pos rfl] at H; exact H
  clear H; have H := H1; clear H1
  have HC3 := A5_ H
  clear H
  go_enter Try.func46, Try.ntmps46
  go_upto_region 2 with (first | ((with_reducible refine gate_callee (f := 59) rfl ?_); refine goesL_ (some 5) rfl rfl Try.func59 q5_15 rfl #[.int .i64 3, .int .i64 1] rfl q5_6 ?_; (with_reducible refine (grid_New.calls k 3 1 true t158 t159 t160 t164 _ A1.out).mono ?_); rintro e w4 ⟨v161, gb163, rfl, ho0, hbn, hgn, hb⟩; refine ⟨_, rfl, ?_⟩; have n0_ := A5_ (Kd.R_lower ho0 (below_size q5_3)); have n1_ := A5_ (hbn rfl); have n2_ := A5_ ((Nat.le_trans (below_size q5_3) hgn : w.heap.size ≤ gb163)); have n3_ := A5_ ((Nat.le_trans (below_size q5_3) hgn : w.heap.size ≤ gb163)); have n4_ := A5_ (below_step q5_3 hb); clear HB; have HO162 := n0_; have BK163 := n1_; have GW163 := n2_; have GE163 := n3_; have HB := n4_; clear n0_ n1_ n2_ n3_ n4_; (try simp only [ptrW_true, ptrW_false]); (try clear hbn); (try clear hgn); (try clear hb); (try clear hb2); (try clear hk); (try clear hi); (try clear ho0)))
  (try simp only [Act.put, setIfInBounds_toArray, set_cons_zero, set_cons_succ])
  go_cut [13] (fun v13 wc => ∃ (kq : Nat) (x13_2 : Bool), v13 = .bool x13_2 ∧ Aside0 (batonlaw10_awake.j0 kq x13_2 t158 t159 t160 = some r) ∧ Aside0 (kq ≤ k) ∧ Aside0 (Kd.R k53 53 wc w.heap.size (fun _ => True) v161 t160) ∧ Aside0 (wc.heap[gb163]? = some (.cells #[.int .i64 t158, .int .i64 t159, v161] 112 (0, 0))) ∧ Aside0 (Below w.heap.size w wc))
  case first =>
   have H := HC3.out
   clear HC3
   by_cases c5 : t164 = 0
   ·rw [if_pos c5] at H
    have c5b0 : (t164 == 0) = true := beq_iff_eq.mpr c5
    have c5b1 : (t164 != 0) = false := bne_eq_false_iff_eq.mpr c5
    clear c5
    (first | rw [c5b0] | (simp only [i64_w, i32_w]; rw [c5b0]) | rw [c5b1] | rw [c5b2] | skip)
    have H' := A5_ H
    clear H
    go_wp2
    go_meet
    case rel => exact ⟨_, (false), (by first | rfl | (simp; done) | (simp [*]; done)), H', ⟨by first | omega | exact Nat.le_refl _⟩, ⟨by (with_reducible repeat (first | apply Kd.R_alloc | apply Kd.R_drewN | apply Kd.R_drew)); exact HO162.out⟩, ⟨by (with_reducible repeat (first | refine blk_drewN ?_ _ | refine blk_drew ?_ | refine blk_alloc ?_ _)); exact BK163.out⟩, ⟨by repeat (first | (with_reducible first | exact HB.out | apply below_alloc | apply pw_below_drewN | apply below_drew1 | refine below_set ?_ GE163.out) | exact HB.out)⟩⟩
   ·rw [if_neg c5] at H
    have c5b0 : (t164 == 0) = false := beq_eq_false_iff_ne.mpr c5
    have c5b1 : (t164 != 0) = true := bne_iff_ne.mpr c5
    (first | rw [c5b0] | (simp only [i64_w, i32_w]; rw [c5b0]) | rw [c5b1] | rw [c5b2] | skip)
    have H' := A5_ H
    clear H
    go_wp2
    go_meet
    case rel => exact ⟨_, (true), (by first | rfl | (simp; done) | (simp [*]; done)), H', ⟨by first | omega | exact Nat.le_refl _⟩, ⟨by (with_reducible repeat (first | apply Kd.R_alloc | apply Kd.R_drewN | apply Kd.R_drew)); exact HO162.out⟩, ⟨by (with_reducible repeat (first | refine blk_drewN ?_ _ | refine blk_drew ?_ | refine blk_alloc ?_ _)); exact BK163.out⟩, ⟨by repeat (first | (with_reducible first | exact HB.out | apply below_alloc | apply pw_below_drewN | apply below_drew1 | refine below_set ?_ GE163.out) | exact HB.out)⟩⟩
  case rest =>
   clear HC3
   try clear c2
   try clear p2
   try clear c4
   try clear c5
   try clear c5b0
   try clear c5b1
   try clear c5b2
   obtain ⟨kq, x13_2, rfl, HA, HJ2, HO_164002, BK163, HB⟩ := hcut
   cases kq with
   | zero => exact absurd HA.out (by simp [batonlaw10_awake.j0])
   | succ kj2 =>
    have H := HA.out
    clear HA
    simp only [batonlaw10_awake.j0] at H
    by_cases c6 : x13_2 = true
    ·subst c6
     have H1 : (some false) = some r := by rw [if_pos rfl] at H; exact H
     clear H; have H := H1; clear H1
     obtain rfl := Option.some.inj H
     go_wp2
     go_ret
     exact ⟨by first | rfl | (simp [errW_none, errW_some] <;> rfl) | (simp [*, errW_none, errW_some] <;> rfl), by repeat (first | (with_reducible first | exact HB.out | apply below_alloc | apply pw_below_drewN | apply below_drew1 | refine below_set ?_ GE163.out) | exact HB.out)⟩
    ·replace c6 := Bool.eq_false_iff.mpr c6
     subst c6
     have H1 : ((grid_Board_Put.f kj2 t158 t159 t160 0 0 97 0 0 0).bind fun bt165 => ((grid_Board_Put.f kj2 bt165.2.1 bt165.2.2.1 bt165.2.2.2 1 0 98 0 0 0).bind fun bt171 => ((grid_Board_Put.f kj2 bt171.2.1 bt171.2.2.1 bt171.2.2.2 2 0 99 0 0 0).bind fun bt177 => ((batonref10_Blank.f).bind fun bt183 => ((grid_Board_Up.f kj2 bt177.2.1 bt177.2.2.1 bt177.2.2.2 0 1 1 bt183.1 bt183.2.1 bt183.2.2.1 bt183.2.2.2).bind fun bt187 => ((grid_Board_Grid.f bt187.1 bt187.2.1 bt187.2.2).bind fun bt192 => (if (bt192.2.2.1.length : Int) = 3 then (if 0 < (bt192.2.2.1.length : Int) then (if ((rd_T53 bt192.2.2.1 0).f0) = 98 then (if 1 < (bt192.2.2.1.length : Int) then (if ((rd_T53 bt192.2.2.1 1).f0) = 32 then (if 2 < (bt192.2.2.1.length : Int) then (some (((rd_T53 bt192.2.2.1 2).f0) == 99)) else (none)) else (some false)) else (none)) else (some false)) else (none)) else (some false)))))))) = some r := by rw [if_neg (show ¬ (false = true) by decide)] at H; exact H
     clear H; have H := H1; clear H1
     replace H := Option.bind_eq_some_iff.mp H
     obtain ⟨⟨t165, t166, t167, t168⟩, A70, H⟩ := H
     replace H : ((grid_Board_Put.f kj2 t166 t167 t168 1 0 98 0 0 0).bind fun bt171 => ((grid_Board_Put.f kj2 bt171.2.1 bt171.2.2.1 bt171.2.2.2 2 0 99 0 0 0).bind fun bt177 => ((batonref10_Blank.f).bind fun bt183 => ((grid_Board_Up.f kj2 bt177.2.1 bt177.2.2.1 bt177.2.2.2 0 1 1 bt183.1 bt183.2.1 bt183.2.2.1 bt183.2.2.2).bind fun bt187 => ((grid_Board_Grid.f bt187.1 bt187.2.1 bt187.2.2).bind fun bt192 => (if (bt192.2.2.1.length : Int) = 3 then (if 0 < (bt192.2.2.1.length : Int) then (if ((rd_T53 bt192.2.2.1 0).f0) = 98 then (if 1 < (bt192.2.2.1.length : Int) then (if ((rd_T53 bt192.2.2.1 1).f0) = 32 then (if 2 < (bt192.2.2.1.length : Int) then (some (((rd_T53 bt192.2.2.1 2).f0) == 99)) else (none)) else (some false)) else (none)) else (some false)) else (none)) else (some false))))))) = some r := H
     have A7 := A5_ A70
     clear A70
     replace H := Option.bind_eq_some_iff.mp H
     obtain ⟨⟨t171, t172, t173, t174⟩, A80, H⟩ := H
     replace H : ((grid_Board_Put.f kj2 t172 t173 t174 2 0 99 0 0 0).bind fun bt177 => ((batonref10_Blank.f).bind fun bt183 => ((grid_Board_Up.f kj2 bt177.2.1 bt177.2.2.1 bt177.2.2.2 0 1 1 bt183.1 bt183.2.1 bt183.2.2.1 bt183.2.2.2).bind fun bt187 => ((grid_Board_Grid.f bt187.1 bt187.2.1 bt187.2.2).bind fun bt192 => (if (bt192.2.2.1.length : Int) = 3 then (if 0 < (bt192.2.2.1.length : Int) then (if ((rd_T53 bt192.2.2.1 0).f0) = 98 then (if 1 < (bt192.2.2.1.length : Int) then (if ((rd_T53 bt192.2.2.1 1).f0) = 32 then (if 2 < (bt192.2.2.1.length : Int) then (some (((rd_T53 bt192.2.2.1 2).f0) == 99)) else (none)) else (some false)) else (none)) else (some false)) else (none)) else (some false)))))) = some r := H
     have A8 := A5_ A80
     clear A80
     replace H := Option.bind_eq_some_iff.mp H
     obtain ⟨⟨t177, t178, t179, t180⟩, A90, H⟩ := H
     replace H : ((batonref10_Blank.f).bind fun bt183 => ((grid_Board_Up.f kj2 t178 t179 t180 0 1 1 bt183.1 bt183.2.1 bt183.2.2.1 bt183.2.2.2).bind fun bt187 => ((grid_Board_Grid.f bt187.1 bt187.2.1 bt187.2.2).bind fun bt192 => (if (bt192.2.2.1.length : Int) = 3 then (if 0 < (bt192.2.2.1.length : Int) then (if ((rd_T53 bt192.2.2.1 0).f0) = 98 then (if 1 < (bt192.2.2.1.length : Int) then (if ((rd_T53 bt192.2.2.1 1).f0) = 32 then (if 2 < (bt192.2.2.1.length : Int) then (some (((rd_T53 bt192.2.2.1 2).f0) == 99)) else (none)) else (some false)) else (none)) else (some false)) else (none)) else (some false))))) = some r := H
     have A9 := A5_ A90
     clear A90
     replace H := Option.bind_eq_some_iff.mp H
     obtain ⟨⟨t183, t184, t185, t186⟩, A100, H⟩ := H
     replace H : ((grid_Board_Up.f kj2 t178 t179 t180 0 1 1 t183 t184 t185 t186).bind fun bt187 => ((grid_Board_Grid.f bt187.1 bt187.2.1 bt187.2.2).bind fun bt192 => (if (bt192.2.2.1.length : Int) = 3 then (if 0 < (bt192.2.2.1.length : Int) then (if ((rd_T53 bt192.2.2.1 0).f0) = 98 then (if 1 < (bt192.2.2.1.length : Int) then (if ((rd_T53 bt192.2.2.1 1).f0) = 32 then (if 2 < (bt192.2.2.1.length : Int) then (some (((rd_T53 bt192.2.2.1 2).f0) == 99)) else (none)) else (some false)) else (none)) else (some false)) else (none)) else (some false)))) = some r := H
     have A10 := A5_ A100
     clear A100
     replace H := Option.bind_eq_some_iff.mp H
     obtain ⟨⟨t187, t188, t189⟩, A110, H⟩ := H
     replace H : ((grid_Board_Grid.f t187 t188 t189).bind fun bt192 => (if (bt192.2.2.1.length : Int) = 3 then (if 0 < (bt192.2.2.1.length : Int) then (if ((rd_T53 bt192.2.2.1 0).f0) = 98 then (if 1 < (bt192.2.2.1.length : Int) then (if ((rd_T53 bt192.2.2.1 1).f0) = 32 then (if 2 < (bt192.2.2.1.length : Int) then (some (((rd_T53 bt192.2.2.1 2).f0) == 99)) else (none)) else (some false)) else (none)) else (some false)) else (none)) else (some false))) = some r := H
     have A11 := A5_ A110
     clear A110
     replace H := Option.bind_eq_some_iff.mp H
     obtain ⟨⟨t192, t193, t194, t197, t198, t199⟩, A120, H⟩ := H
     replace H : (if (t194.length : Int) = 3 then (if 0 < (t194.length : Int) then (if ((rd_T53 t194 0).f0) = 98 then (if 1 < (t194.length : Int) then (if ((rd_T53 t194 1).f0) = 32 then (if 2 < (t194.length : Int) then (some (((rd_T53 t194 2).f0) == 99)) else (none)) else (some false)) else (none)) else (some false)) else (none)) else (some false)) = some r := H
     have A12 := A5_ A120
     clear A120
     by_cases c13 : (t194.length : Int) = 3
     ·rw [if_pos c13] at H
      have c13b0 : ((t194.length : Int) == 3) = true := beq_iff_eq.mpr c13
      have c13b1 : ((t194.length : Int) != 3) = false := bne_eq_false_iff_eq.mpr c13
      clear c13
      by_cases c14 : 0 < (t194.length : Int)
      ·rw [if_pos c14] at H
       have c14b0 : decide (0 < (t194.length : Int)) = true := decide_eq_true c14
       have c14b1 : decide (0 < t194.length) = true := decide_eq_true q5_23
       clear c14
       by_cases c15 : ((rd_T53 t194 0).f0) = 98
       ·rw [if_pos c15] at H
        have c15b0 : (((rd_T53 t194 0).f0) == 98) = true := beq_iff_eq.mpr c15
        have c15b1 : (((rd_T53 t194 0).f0) != 98) = false := bne_eq_false_iff_eq.mpr c15
        clear c15
        by_cases c16 : 1 < (t194.length : Int)
        ·rw [if_pos c16] at H
         have c16b0 : decide (1 < (t194.length : Int)) = true := decide_eq_true c16
         have c16b1 : decide (1 < t194.length) = true := decide_eq_true q5_23
         clear c16
         by_cases c17 : ((rd_T53 t194 1).f0) = 32
         ·rw [if_pos c17] at H
          have c17b0 : (((rd_T53 t194 1).f0) == 32) = true := beq_iff_eq.mpr c17
          have c17b1 : (((rd_T53 t194 1).f0) != 32) = false := bne_eq_false_iff_eq.mpr c17
          clear c17
          by_cases c18 : 2 < (t194.length : Int)
          ·rw [if_pos c18] at H
           have c18b0 : decide (2 < (t194.length : Int)) = true := decide_eq_true c18
           have c18b1 : decide (2 < t194.length) = true := decide_eq_true q5_23
           clear c18
           obtain rfl := Option.some.inj H
           obtain ⟨Ao19, co19, eo19⟩ := Kd.R_slice HO_164002.out
           subst eo19
           go_wp2_with (first | ((with_reducible refine gate_callee (f := 72) rfl ?_); refine goesL_ (some 16) rfl rfl Try.func72 q5_15 rfl #[.pointer (some ⟨gb163, 0, none⟩), .int .i64 0, .int .i64 0, .agg #[.int .i32 97, .int .i64 0, .int .i64 0, .int .i64 0]] rfl q5_6 ?_; (with_reducible refine (grid_Board_Put.calls kj2 gb163 t158 t159 (fun k_ => some k_ = (.slice Ao19 t160.length co19 : Value).ownBlock) (.slice Ao19 t160.length co19) t160 0 0 97 0 0 0 t165 t166 t167 t168 w _ ?side2 ?side3 ?side1 ?side4 A7.out).mono ?_); (case side1 => repeat (first | (with_reducible first | exact HB.out | apply below_alloc | apply pw_below_drewN | apply below_drew1 | refine below_set ?_ GE163.out) | exact HB.out)); (case side2 => (with_reducible repeat (first | refine blk_drewN ?_ _ | refine blk_drew ?_ | refine blk_alloc ?_ _)); exact BK163.out); (case side3 => exact GE163.out); (case side4 => exact Kd.R_tight rfl HO_164002.out); rintro e w20 ⟨v169, rfl, ho0, hbx, hb, hkp⟩; refine ⟨_, rfl, ?_⟩; have n0_ := A5_ (hbx); have n1_ := A5_ (Kd.R_mono (ok' := fun k_ => True) ho0 (fun k_ hk_ => trivial)); have n2_ := A5_ (hb); clear BK163 HB HO_164002; have BK163 := n0_; have HO170 := n1_; have HB := n2_; clear n0_ n1_ n2_; (try clear hbx); (try clear hbn); (try clear hgn); (try clear hb); (try clear hkp); (try clear ho0); obtain ⟨Ao21, co21, eo21⟩ := Kd.R_slice HO170.out; subst eo21) | ((with_reducible refine gate_callee (f := 72) rfl ?_); refine goesL_ (some 19) rfl rfl Try.func72 q5_15 rfl #[.pointer (some ⟨gb163, 0, none⟩), .int .i64 1, .int .i64 0, .agg #[.int .i32 98, .int .i64 0, .int .i64 0, .int .i64 0]] rfl q5_6 ?_; (with_reducible refine (grid_Board_Put.calls kj2 gb163 t166 t167 (fun k_ => some k_ = (.slice Ao21 t168.length co21 : Value).ownBlock) (.slice Ao21 t168.length co21) t168 1 0 98 0 0 0 t171 t172 t173 t174 w _ ?side2 ?side3 ?side1 ?side4 A8.out).mono ?_); (case side1 => repeat (first | (with_reducible first | exact HB.out | apply below_alloc | apply pw_below_drewN | apply below_drew1 | refine below_set ?_ GE163.out) | exact HB.out)); (case side2 => (with_reducible repeat (first | refine blk_drewN ?_ _ | refine blk_drew ?_ | refine blk_alloc ?_ _)); exact BK163.out); (case side3 => exact GE163.out); (case side4 => exact Kd.R_tight rfl HO170.out); rintro e w22 ⟨v175, rfl, ho0, hbx, hb, hkp⟩; refine ⟨_, rfl, ?_⟩; have n0_ := A5_ (hbx); have n1_ := A5_ (Kd.R_mono (ok' := fun k_ => True) ho0 (fun k_ hk_ => trivial)); have n2_ := A5_ (hb); clear BK163 HB HO170; have BK163 := n0_; have HO176 := n1_; have HB := n2_; clear n0_ n1_ n2_; (try clear hbx); (try clear hbn); (try clear hgn); (try clear hb); (try clear hkp); (try clear ho0); obtain ⟨Ao23, co23, eo23⟩ := Kd.R_slice HO176.out; subst eo23) | ((with_reducible refine gate_callee (f := 72) rfl ?_); refine goesL_ (some 22) rfl rfl Try.func72 q5_15 rfl #[.pointer (some ⟨gb163, 0, none⟩), .int .i64 2, .int .i64 0, .agg #[.int .i32 99, .int .i64 0, .int .i64 0, .int .i64 0]] rfl q5_6 ?_; (with_reducible refine (grid_Board_Put.calls kj2 gb163 t172 t173 (fun k_ => some k_ = (.slice Ao23 t174.length co23 : Value).ownBlock) (.slice Ao23 t174.length co23) t174 2 0 99 0 0 0 t177 t178 t179 t180 w _ ?side2 ?side3 ?side1 ?side4 A9.out).mono ?_); (case side1 => repeat (first | (with_reducible first | exact HB.out | apply below_alloc | apply pw_below_drewN | apply below_drew1 | refine below_set ?_ GE163.out) | exact HB.out)); (case side2 => (with_reducible repeat (first | refine blk_drewN ?_ _ | refine blk_drew ?_ | refine blk_alloc ?_ _)); exact BK163.out); (case side3 => exact GE163.out); (case side4 => exact Kd.R_tight rfl HO176.out); rintro e w24 ⟨v181, rfl, ho0, hbx, hb, hkp⟩; refine ⟨_, rfl, ?_⟩; have n0_ := A5_ (hbx); have n1_ := A5_ (Kd.R_mono (ok' := fun k_ => True) ho0 (fun k_ hk_ => trivial)); have n2_ := A5_ (hb); clear BK163 HB HO176; have BK163 := n0_; have HO182 := n1_; have HB := n2_; clear n0_ n1_ n2_; (try clear hbx); (try clear hbn); (try clear hgn); (try clear hb); (try clear hkp); (try clear ho0)) | ((with_reducible refine gate_callee (f := 74) rfl ?_); refine goesL_ (some 24) rfl rfl Try.func74 q5_15 rfl #[] rfl q5_6 ?_; (with_reducible refine (batonref10_Blank.calls  t183 t184 t185 t186 _ A10.out).mono ?_); rintro e w25 ⟨rfl, hb⟩; refine ⟨_, rfl, ?_⟩; have n0_ := A5_ (Kd.R_below q5_21 hb); have n1_ := A5_ (blk_below (g := gb163) (o := .cells #[.int .i64 t178, .int .i64 t179, v181] 112 (0, 0)) q5_8 hb); have n2_ := A5_ (below_step q5_7 hb); clear HO182 BK163 HB; have HO182 := n0_; have BK163 := n1_; have HB := n2_; clear n0_ n1_ n2_; (try clear hb); (try clear hb2); (try clear hk); (try clear hi); obtain ⟨Ao26, co26, eo26⟩ := Kd.R_slice HO182.out; subst eo26) | ((with_reducible refine gate_callee (f := 73) rfl ?_); refine goesL_ (some 25) rfl rfl Try.func73 q5_15 rfl #[.pointer (some ⟨gb163, 0, none⟩), .int .i64 0, .int .i64 1, .int .i64 1, .agg #[.int .i32 t183, .int .i64 t184, .int .i64 t185, .int .i64 t186]] rfl q5_6 ?_; (with_reducible refine (grid_Board_Up.calls kj2 gb163 t178 t179 (fun k_ => some k_ = (.slice Ao26 t180.length co26 : Value).ownBlock) (.slice Ao26 t180.length co26) t180 0 1 1 t183 t184 t185 t186 t187 t188 t189 w _ ?side2 ?side3 ?side1 ?side4 A11.out).mono ?_); (case side1 => repeat (first | (with_reducible first | exact HB.out | apply below_alloc | apply pw_below_drewN | apply below_drew1 | refine below_set ?_ GE163.out) | exact HB.out)); (case side2 => (with_reducible repeat (first | refine blk_drewN ?_ _ | refine blk_drew ?_ | refine blk_alloc ?_ _)); exact BK163.out); (case side3 => exact GE163.out); (case side4 => exact Kd.R_tight rfl HO182.out); rintro e w27 ⟨v190, rfl, ho0, hbx, hb, hkp⟩; refine ⟨_, rfl, ?_⟩; have n0_ := A5_ (hbx); have n1_ := A5_ (Kd.R_mono (ok' := fun k_ => True) ho0 (fun k_ hk_ => trivial)); have n2_ := A5_ (hb); clear BK163 HB HO182; have BK163 := n0_; have HO191 := n1_; have HB := n2_; clear n0_ n1_ n2_; (try clear hbx); (try clear hbn); (try clear hgn); (try clear hb); (try clear hkp); (try clear ho0); obtain ⟨Ao28, co28, eo28⟩ := Kd.R_slice HO191.out; subst eo28) | ((with_reducible refine gate_callee (f := 49) rfl ?_); refine goesL_ (some 27) rfl rfl Try.func49 q5_15 rfl #[.pointer (some ⟨gb163, 0, none⟩)] rfl q5_6 ?_; (with_reducible refine (grid_Board_Grid.calls gb163 t187 t188 (fun k_ => some k_ = (.slice Ao28 t189.length co28 : Value).ownBlock) (.slice Ao28 t189.length co28) t189 t192 t193 t194 t197 t198 t199 w _ ?side2 ?side3 ?side1 ?side4 A12.out).mono ?_); (case side1 => repeat (first | (with_reducible first | exact HB.out | apply below_alloc | apply pw_below_drewN | apply below_drew1 | refine below_set ?_ GE163.out) | exact HB.out)); (case side2 => (with_reducible repeat (first | refine blk_drewN ?_ _ | refine blk_drew ?_ | refine blk_alloc ?_ _)); exact BK163.out); (case side3 => exact GE163.out); (case side4 => exact Kd.R_tight rfl HO191.out); rintro e w29 ⟨v195, v200, rfl, ho0, ho1, hbx, hb, hkp⟩; refine ⟨_, rfl, ?_⟩; have n0_ := A5_ (hbx); have n1_ := A5_ (Kd.R_mono (ok' := fun k_ => some k_ ≠ (v200 : Value).ownBlock) ho0 (fun k_ hk_ => hk_.2)); have n2_ := A5_ (Kd.R_mono (ok' := fun k_ => some k_ ≠ (v195 : Value).ownBlock) ho1 (fun k_ hk_ => hk_.2)); have n3_ := A5_ (hb); clear BK163 HB HO191; have BK163 := n0_; have HO196 := n1_; have HO201 := n2_; have HB := n3_; clear n0_ n1_ n2_ n3_; (try clear hbx); (try clear hbn); (try clear hgn); (try clear hb); (try clear hkp); (try clear ho0); (try clear ho1)) | ((with_reducible refine gate_dst (N := 3) rfl ?_); refine box_event ?hg (N := 3) ?hd (cs := #[.int .i64 0, .int .i64 0, .slice none 0 0]) (t := 75) ?hr ?_; (case hd => rfl); (case hg => rfl); (case hr => first | (go_simp; done) | (go_simp; rfl)); intro gb202 hg w30 hbox hb; have n0_ := A5_ (Kd.R_below q5_20 hb); have n1_ := A5_ (Kd.R_below q5_19 hb); have n2_ := A5_ (blk_below (g := gb163) (o := .cells #[.int .i64 t197, .int .i64 t198, v200] 112 (0, 0)) q5_8 hb); have n3_ := A5_ (below_step q5_7 hb); have n4_ := A5_ (hbox); have n5_ := A5_ ((by rw [hg]; exact (below_size q5_7) : w.heap.size ≤ gb202)); have n6_ := A5_ ((by rw [hg]; exact (below_size q5_7) : w.heap.size ≤ gb202)); have n7_ := A5_ ((by rw [hg]; exact Nat.ne_of_lt (blk_lt (g := gb163) (o := .cells #[.int .i64 t197, .int .i64 t198, v200] 112 (0, 0)) q5_8) : gb163 ≠ gb202)); have n8_ := A5_ ((by rw [hg]; exact Nat.ne_of_gt (blk_lt (g := gb163) (o := .cells #[.int .i64 t197, .int .i64 t198, v200] 112 (0, 0)) q5_8) : gb202 ≠ gb163)); clear HO196 HO201 BK163 HB; have HO196 := n0_; have HO201 := n1_; have BK163 := n2_; have HB := n3_; have BK202 := n4_; have GW202 := n5_; have GE202 := n6_; have NB163_202 := n7_; have NB202_163 := n8_; clear n0_ n1_ n2_ n3_ n4_ n5_ n6_ n7_ n8_; clear hb hbox hg; have hnb31 := NB202_163.out; have hnc31 := NB163_202.out; have hcz32_0 : w30.cell? ⟨gb202, 0, none⟩ = some (.int .i64 0) := bc5_ BK202 0; have hcz32_1 : w30.cell? ⟨gb202, 1, none⟩ = some (.int .i64 0) := bc5_ BK202 1; have hcz32_2 : w30.cell? ⟨gb202, 2, none⟩ = some (.slice none 0 0) := bc5_ BK202 2; have hfz32_0 := blk_frozen BK202.out 0; have hfz32_1 := blk_frozen BK202.out 1; have hfz32_2 := blk_frozen BK202.out 2; obtain ⟨Ao33, co33, eo33⟩ := Kd.R_slice HO196.out; subst eo33; have p203 : 0 ≤ (0 : Int) := q5_23; have q203 : 0 < (t194.length : Int) := of_decide_eq_true q5_22; obtain ⟨ad203, e203, hx203_0, hx203_1, hx203_2, hx203_3⟩ := at_T53 (Kd.R_reads' HO196.out).2.2 0 p203 q203; cases e203; have qi203 : (0 < t194.length) = True := eq_true q5_23; (try rw [show ((0 : Int)).toNat = 0 from rfl] at hx203_0); (try rw [show 0 * 4 = 0 from rfl] at hx203_0); (try rw [Addr.add_zero'] at hx203_0); (try rw [show ((0 : Int)).toNat = 0 from rfl] at hx203_1); (try rw [show 0 * 4 = 0 from rfl] at hx203_1); (try rw [Addr.add_zero'] at hx203_1); (try rw [show ((0 : Int)).toNat = 0 from rfl] at hx203_2); (try rw [show 0 * 4 = 0 from rfl] at hx203_2); (try rw [Addr.add_zero'] at hx203_2); (try rw [show ((0 : Int)).toNat = 0 from rfl] at hx203_3); (try rw [show 0 * 4 = 0 from rfl] at hx203_3); (try rw [Addr.add_zero'] at hx203_3); have hn203_0 : ad203.block ≠ gb202 := Kd.own_blk (Kd.R_ne HO196.out BK202.out (by decide)); have hn203_1 : ad203.block ≠ gb202 := Kd.own_blk (Kd.R_ne HO196.out BK202.out (by decide)); have hn203_2 : ad203.block ≠ gb202 := Kd.own_blk (Kd.R_ne HO196.out BK202.out (by decide)); replace hx203_0 := (cell_far (p := ⟨gb202, 0, none⟩) q5_11 (.int .i64 t192)).trans hx203_0; replace hx203_1 := (cell_far (p := ⟨gb202, 0, none⟩) q5_11 (.int .i64 t192)).trans hx203_1; replace hx203_2 := (cell_far (p := ⟨gb202, 0, none⟩) q5_11 (.int .i64 t192)).trans hx203_2; replace hx203_3 := (cell_far (p := ⟨gb202, 0, none⟩) q5_11 (.int .i64 t192)).trans hx203_3; replace hx203_0 := (cell_far (p := ⟨gb202, 1, none⟩) q5_10 (.int .i64 t193)).trans hx203_0; replace hx203_1 := (cell_far (p := ⟨gb202, 1, none⟩) q5_10 (.int .i64 t193)).trans hx203_1; replace hx203_2 := (cell_far (p := ⟨gb202, 1, none⟩) q5_10 (.int .i64 t193)).trans hx203_2; replace hx203_3 := (cell_far (p := ⟨gb202, 1, none⟩) q5_10 (.int .i64 t193)).trans hx203_3; replace hx203_0 := (cell_far (p := ⟨gb202, 2, none⟩) q5_9 (.slice (some ad203) t194.length co33)).trans hx203_0; replace hx203_1 := (cell_far (p := ⟨gb202, 2, none⟩) q5_9 (.slice (some ad203) t194.length co33)).trans hx203_1; replace hx203_2 := (cell_far (p := ⟨gb202, 2, none⟩) q5_9 (.slice (some ad203) t194.length co33)).trans hx203_2; replace hx203_3 := (cell_far (p := ⟨gb202, 2, none⟩) q5_9 (.slice (some ad203) t194.length co33)).trans hx203_3; clear hn203_0 hn203_1 hn203_2; replace p203 := eq_true p203; replace q203 := eq_true q203; have p204 : 0 ≤ (1 : Int) := q5_23; have q204 : 1 < (t194.length : Int) := of_decide_eq_true q5_22; obtain ⟨ad204, e204, hx204_0, hx204_1, hx204_2, hx204_3⟩ := at_T53 (Kd.R_reads' HO196.out).2.2 1 p204 q204; obtain rfl : ad203 = ad204 := (by injection e204); (try simp only [show (1 : Int).toNat = 1 from rfl, Nat.reduceMul, Nat.reduceEqDiff, Go.Addr.add, ↓reduceIte] at hx204_0); (try simp only [show (1 : Int).toNat = 1 from rfl, Nat.reduceMul, Nat.reduceEqDiff, Go.Addr.add, ↓reduceIte] at hx204_1); (try simp only [show (1 : Int).toNat = 1 from rfl, Nat.reduceMul, Nat.reduceEqDiff, Go.Addr.add, ↓reduceIte] at hx204_2); (try simp only [show (1 : Int).toNat = 1 from rfl, Nat.reduceMul, Nat.reduceEqDiff, Go.Addr.add, ↓reduceIte] at hx204_3); have qi204 : (1 < t194.length) = True := eq_true q5_23; (try rw [show ((1 : Int)).toNat = 1 from rfl] at hx204_0); (try rw [show 1 * 4 = 4 from rfl] at hx204_0); (try rw [show ((1 : Int)).toNat = 1 from rfl] at hx204_1); (try rw [show 1 * 4 = 4 from rfl] at hx204_1); (try rw [show ((1 : Int)).toNat = 1 from rfl] at hx204_2); (try rw [show 1 * 4 = 4 from rfl] at hx204_2); (try rw [show ((1 : Int)).toNat = 1 from rfl] at hx204_3); (try rw [show 1 * 4 = 4 from rfl] at hx204_3); have hn204_0 : ad203.block ≠ gb202 := Kd.own_blk (Kd.R_ne HO196.out BK202.out (by decide)); have hn204_1 : ad203.block ≠ gb202 := Kd.own_blk (Kd.R_ne HO196.out BK202.out (by decide)); have hn204_2 : ad203.block ≠ gb202 := Kd.own_blk (Kd.R_ne HO196.out BK202.out (by decide)); replace hx204_0 := (cell_far (p := ⟨gb202, 0, none⟩) q5_14 (.int .i64 t192)).trans hx204_0; replace hx204_1 := (cell_far (p := ⟨gb202, 0, none⟩) q5_14 (.int .i64 t192)).trans hx204_1; replace hx204_2 := (cell_far (p := ⟨gb202, 0, none⟩) q5_14 (.int .i64 t192)).trans hx204_2; replace hx204_3 := (cell_far (p := ⟨gb202, 0, none⟩) q5_14 (.int .i64 t192)).trans hx204_3; replace hx204_0 := (cell_far (p := ⟨gb202, 1, none⟩) q5_13 (.int .i64 t193)).trans hx204_0; replace hx204_1 := (cell_far (p := ⟨gb202, 1, none⟩) q5_13 (.int .i64 t193)).trans hx204_1; replace hx204_2 := (cell_far (p := ⟨gb202, 1, none⟩) q5_13 (.int .i64 t193)).trans hx204_2; replace hx204_3 := (cell_far (p := ⟨gb202, 1, none⟩) q5_13 (.int .i64 t193)).trans hx204_3; replace hx204_0 := (cell_far (p := ⟨gb202, 2, none⟩) q5_12 (.slice (some ad203) t194.length co33)).trans hx204_0; replace hx204_1 := (cell_far (p := ⟨gb202, 2, none⟩) q5_12 (.slice (some ad203) t194.length co33)).trans hx204_1; replace hx204_2 := (cell_far (p := ⟨gb202, 2, none⟩) q5_12 (.slice (some ad203) t194.length co33)).trans hx204_2; replace hx204_3 := (cell_far (p := ⟨gb202, 2, none⟩) q5_12 (.slice (some ad203) t194.length co33)).trans hx204_3; clear hn204_0 hn204_1 hn204_2; replace p204 := eq_true p204; replace q204 := eq_true q204; have p205 : 0 ≤ (2 : Int) := q5_23; have q205 : 2 < (t194.length : Int) := of_decide_eq_true q5_22; obtain ⟨ad205, e205, hx205_0, hx205_1, hx205_2, hx205_3⟩ := at_T53 (Kd.R_reads' HO196.out).2.2 2 p205 q205; obtain rfl : ad203 = ad205 := (by injection e205); (try simp only [show (2 : Int).toNat = 2 from rfl, Nat.reduceMul, Nat.reduceEqDiff, Go.Addr.add, ↓reduceIte] at hx205_0); (try simp only [show (2 : Int).toNat = 2 from rfl, Nat.reduceMul, Nat.reduceEqDiff, Go.Addr.add, ↓reduceIte] at hx205_1); (try simp only [show (2 : Int).toNat = 2 from rfl, Nat.reduceMul, Nat.reduceEqDiff, Go.Addr.add, ↓reduceIte] at hx205_2); (try simp only [show (2 : Int).toNat = 2 from rfl, Nat.reduceMul, Nat.reduceEqDiff, Go.Addr.add, ↓reduceIte] at hx205_3); have qi205 : (2 < t194.length) = True := eq_true q5_23; (try rw [show ((2 : Int)).toNat = 2 from rfl] at hx205_0); (try rw [show 2 * 4 = 8 from rfl] at hx205_0); (try rw [show ((2 : Int)).toNat = 2 from rfl] at hx205_1); (try rw [show 2 * 4 = 8 from rfl] at hx205_1); (try rw [show ((2 : Int)).toNat = 2 from rfl] at hx205_2); (try rw [show 2 * 4 = 8 from rfl] at hx205_2); (try rw [show ((2 : Int)).toNat = 2 from rfl] at hx205_3); (try rw [show 2 * 4 = 8 from rfl] at hx205_3); have hn205_0 : ad203.block ≠ gb202 := Kd.own_blk (Kd.R_ne HO196.out BK202.out (by decide)); have hn205_1 : ad203.block ≠ gb202 := Kd.own_blk (Kd.R_ne HO196.out BK202.out (by decide)); have hn205_2 : ad203.block ≠ gb202 := Kd.own_blk (Kd.R_ne HO196.out BK202.out (by decide)); replace hx205_0 := (cell_far (p := ⟨gb202, 0, none⟩) q5_18 (.int .i64 t192)).trans hx205_0; replace hx205_1 := (cell_far (p := ⟨gb202, 0, none⟩) q5_18 (.int .i64 t192)).trans hx205_1; replace hx205_2 := (cell_far (p := ⟨gb202, 0, none⟩) q5_18 (.int .i64 t192)).trans hx205_2; replace hx205_3 := (cell_far (p := ⟨gb202, 0, none⟩) q5_18 (.int .i64 t192)).trans hx205_3; replace hx205_0 := (cell_far (p := ⟨gb202, 1, none⟩) q5_17 (.int .i64 t193)).trans hx205_0; replace hx205_1 := (cell_far (p := ⟨gb202, 1, none⟩) q5_17 (.int .i64 t193)).trans hx205_1; replace hx205_2 := (cell_far (p := ⟨gb202, 1, none⟩) q5_17 (.int .i64 t193)).trans hx205_2; replace hx205_3 := (cell_far (p := ⟨gb202, 1, none⟩) q5_17 (.int .i64 t193)).trans hx205_3; replace hx205_0 := (cell_far (p := ⟨gb202, 2, none⟩) q5_16 (.slice (some ad203) t194.length co33)).trans hx205_0; replace hx205_1 := (cell_far (p := ⟨gb202, 2, none⟩) q5_16 (.slice (some ad203) t194.length co33)).trans hx205_1; replace hx205_2 := (cell_far (p := ⟨gb202, 2, none⟩) q5_16 (.slice (some ad203) t194.length co33)).trans hx205_2; replace hx205_3 := (cell_far (p := ⟨gb202, 2, none⟩) q5_16 (.slice (some ad203) t194.length co33)).trans hx205_3; clear hn205_0 hn205_1 hn205_2; replace p205 := eq_true p205; replace q205 := eq_true q205))
           go_ret
           exact ⟨by first | rfl | (simp [errW_none, errW_some] <;> rfl) | (simp [*, errW_none, errW_some] <;> rfl), by repeat (first | (with_reducible first | exact HB.out | apply below_alloc | apply pw_below_drewN | apply below_drew1 | refine below_set ?_ GE163.out | refine below_set ?_ GE202.out) | exact HB.out)⟩
          ·rw [if_neg c18] at H
           exact absurd H (by simp)
         ·rw [if_neg c17] at H
          have c17b0 : (((rd_T53 t194 1).f0) == 32) = false := beq_eq_false_iff_ne.mpr c17
          have c17b1 : (((rd_T53 t194 1).f0) != 32) = true := bne_iff_ne.mpr c17
          obtain rfl := Option.some.inj H
          obtain ⟨Ao34, co34, eo34⟩ := Kd.R_slice HO_164002.out
          subst eo34
          go_wp2_with (first | ((with_reducible refine gate_callee (f := 72) rfl ?_); refine goesL_ (some 16) rfl rfl Try.func72 q5_15 rfl #[.pointer (some ⟨gb163, 0, none⟩), .int .i64 0, .int .i64 0, .agg #[.int .i32 97, .int .i64 0, .int .i64 0, .int .i64 0]] rfl q5_6 ?_; (with_reducible refine (grid_Board_Put.calls kj2 gb163 t158 t159 (fun k_ => some k_ = (.slice Ao34 t160.length co34 : Value).ownBlock) (.slice Ao34 t160.length co34) t160 0 0 97 0 0 0 t165 t166 t167 t168 w _ ?side2 ?side3 ?side1 ?side4 A7.out).mono ?_); (case side1 => repeat (first | (with_reducible first | exact HB.out | apply below_alloc | apply pw_below_drewN | apply below_drew1 | refine below_set ?_ GE163.out) | exact HB.out)); (case side2 => (with_reducible repeat (first | refine blk_drewN ?_ _ | refine blk_drew ?_ | refine blk_alloc ?_ _)); exact BK163.out); (case side3 => exact GE163.out); (case side4 => exact Kd.R_tight rfl HO_164002.out); rintro e w35 ⟨v169, rfl, ho0, hbx, hb, hkp⟩; refine ⟨_, rfl, ?_⟩; have n0_ := A5_ (hbx); have n1_ := A5_ (Kd.R_mono (ok' := fun k_ => True) ho0 (fun k_ hk_ => trivial)); have n2_ := A5_ (hb); clear BK163 HB HO_164002; have BK163 := n0_; have HO170 := n1_; have HB := n2_; clear n0_ n1_ n2_; (try clear hbx); (try clear hbn); (try clear hgn); (try clear hb); (try clear hkp); (try clear ho0); obtain ⟨Ao36, co36, eo36⟩ := Kd.R_slice HO170.out; subst eo36) | ((with_reducible refine gate_callee (f := 72) rfl ?_); refine goesL_ (some 19) rfl rfl Try.func72 q5_15 rfl #[.pointer (some ⟨gb163, 0, none⟩), .int .i64 1, .int .i64 0, .agg #[.int .i32 98, .int .i64 0, .int .i64 0, .int .i64 0]] rfl q5_6 ?_; (with_reducible refine (grid_Board_Put.calls kj2 gb163 t166 t167 (fun k_ => some k_ = (.slice Ao36 t168.length co36 : Value).ownBlock) (.slice Ao36 t168.length co36) t168 1 0 98 0 0 0 t171 t172 t173 t174 w _ ?side2 ?side3 ?side1 ?side4 A8.out).mono ?_); (case side1 => repeat (first | (with_reducible first | exact HB.out | apply below_alloc | apply pw_below_drewN | apply below_drew1 | refine below_set ?_ GE163.out) | exact HB.out)); (case side2 => (with_reducible repeat (first | refine blk_drewN ?_ _ | refine blk_drew ?_ | refine blk_alloc ?_ _)); exact BK163.out); (case side3 => exact GE163.out); (case side4 => exact Kd.R_tight rfl HO170.out); rintro e w37 ⟨v175, rfl, ho0, hbx, hb, hkp⟩; refine ⟨_, rfl, ?_⟩; have n0_ := A5_ (hbx); have n1_ := A5_ (Kd.R_mono (ok' := fun k_ => True) ho0 (fun k_ hk_ => trivial)); have n2_ := A5_ (hb); clear BK163 HB HO170; have BK163 := n0_; have HO176 := n1_; have HB := n2_; clear n0_ n1_ n2_; (try clear hbx); (try clear hbn); (try clear hgn); (try clear hb); (try clear hkp); (try clear ho0); obtain ⟨Ao38, co38, eo38⟩ := Kd.R_slice HO176.out; subst eo38) | ((with_reducible refine gate_callee (f := 72) rfl ?_); refine goesL_ (some 22) rfl rfl Try.func72 q5_15 rfl #[.pointer (some ⟨gb163, 0, none⟩), .int .i64 2, .int .i64 0, .agg #[.int .i32 99, .int .i64 0, .int .i64 0, .int .i64 0]] rfl q5_6 ?_; (with_reducible refine (grid_Board_Put.calls kj2 gb163 t172 t173 (fun k_ => some k_ = (.slice Ao38 t174.length co38 : Value).ownBlock) (.slice Ao38 t174.length co38) t174 2 0 99 0 0 0 t177 t178 t179 t180 w _ ?side2 ?side3 ?side1 ?side4 A9.out).mono ?_); (case side1 => repeat (first | (with_reducible first | exact HB.out | apply below_alloc | apply pw_below_drewN | apply below_drew1 | refine below_set ?_ GE163.out) | exact HB.out)); (case side2 => (with_reducible repeat (first | refine blk_drewN ?_ _ | refine blk_drew ?_ | refine blk_alloc ?_ _)); exact BK163.out); (case side3 => exact GE163.out); (case side4 => exact Kd.R_tight rfl HO176.out); rintro e w39 ⟨v181, rfl, ho0, hbx, hb, hkp⟩; refine ⟨_, rfl, ?_⟩; have n0_ := A5_ (hbx); have n1_ := A5_ (Kd.R_mono (ok' := fun k_ => True) ho0 (fun k_ hk_ => trivial)); have n2_ := A5_ (hb); clear BK163 HB HO176; have BK163 := n0_; have HO182 := n1_; have HB := n2_; clear n0_ n1_ n2_; (try clear hbx); (try clear hbn); (try clear hgn); (try clear hb); (try clear hkp); (try clear ho0)) | ((with_reducible refine gate_callee (f := 74) rfl ?_); refine goesL_ (some 24) rfl rfl Try.func74 q5_15 rfl #[] rfl q5_6 ?_; (with_reducible refine (batonref10_Blank.calls  t183 t184 t185 t186 _ A10.out).mono ?_); rintro e w40 ⟨rfl, hb⟩; refine ⟨_, rfl, ?_⟩; have n0_ := A5_ (Kd.R_below q5_21 hb); have n1_ := A5_ (blk_below (g := gb163) (o := .cells #[.int .i64 t178, .int .i64 t179, v181] 112 (0, 0)) q5_8 hb); have n2_ := A5_ (below_step q5_7 hb); clear HO182 BK163 HB; have HO182 := n0_; have BK163 := n1_; have HB := n2_; clear n0_ n1_ n2_; (try clear hb); (try clear hb2); (try clear hk); (try clear hi); obtain ⟨Ao41, co41, eo41⟩ := Kd.R_slice HO182.out; subst eo41) | ((with_reducible refine gate_callee (f := 73) rfl ?_); refine goesL_ (some 25) rfl rfl Try.func73 q5_15 rfl #[.pointer (some ⟨gb163, 0, none⟩), .int .i64 0, .int .i64 1, .int .i64 1, .agg #[.int .i32 t183, .int .i64 t184, .int .i64 t185, .int .i64 t186]] rfl q5_6 ?_; (with_reducible refine (grid_Board_Up.calls kj2 gb163 t178 t179 (fun k_ => some k_ = (.slice Ao41 t180.length co41 : Value).ownBlock) (.slice Ao41 t180.length co41) t180 0 1 1 t183 t184 t185 t186 t187 t188 t189 w _ ?side2 ?side3 ?side1 ?side4 A11.out).mono ?_); (case side1 => repeat (first | (with_reducible first | exact HB.out | apply below_alloc | apply pw_below_drewN | apply below_drew1 | refine below_set ?_ GE163.out) | exact HB.out)); (case side2 => (with_reducible repeat (first | refine blk_drewN ?_ _ | refine blk_drew ?_ | refine blk_alloc ?_ _)); exact BK163.out); (case side3 => exact GE163.out); (case side4 => exact Kd.R_tight rfl HO182.out); rintro e w42 ⟨v190, rfl, ho0, hbx, hb, hkp⟩; refine ⟨_, rfl, ?_⟩; have n0_ := A5_ (hbx); have n1_ := A5_ (Kd.R_mono (ok' := fun k_ => True) ho0 (fun k_ hk_ => trivial)); have n2_ := A5_ (hb); clear BK163 HB HO182; have BK163 := n0_; have HO191 := n1_; have HB := n2_; clear n0_ n1_ n2_; (try clear hbx); (try clear hbn); (try clear hgn); (try clear hb); (try clear hkp); (try clear ho0); obtain ⟨Ao43, co43, eo43⟩ := Kd.R_slice HO191.out; subst eo43) | ((with_reducible refine gate_callee (f := 49) rfl ?_); refine goesL_ (some 27) rfl rfl Try.func49 q5_15 rfl #[.pointer (some ⟨gb163, 0, none⟩)] rfl q5_6 ?_; (with_reducible refine (grid_Board_Grid.calls gb163 t187 t188 (fun k_ => some k_ = (.slice Ao43 t189.length co43 : Value).ownBlock) (.slice Ao43 t189.length co43) t189 t192 t193 t194 t197 t198 t199 w _ ?side2 ?side3 ?side1 ?side4 A12.out).mono ?_); (case side1 => repeat (first | (with_reducible first | exact HB.out | apply below_alloc | apply pw_below_drewN | apply below_drew1 | refine below_set ?_ GE163.out) | exact HB.out)); (case side2 => (with_reducible repeat (first | refine blk_drewN ?_ _ | refine blk_drew ?_ | refine blk_alloc ?_ _)); exact BK163.out); (case side3 => exact GE163.out); (case side4 => exact Kd.R_tight rfl HO191.out); rintro e w44 ⟨v195, v200, rfl, ho0, ho1, hbx, hb, hkp⟩; refine ⟨_, rfl, ?_⟩; have n0_ := A5_ (hbx); have n1_ := A5_ (Kd.R_mono (ok' := fun k_ => some k_ ≠ (v200 : Value).ownBlock) ho0 (fun k_ hk_ => hk_.2)); have n2_ := A5_ (Kd.R_mono (ok' := fun k_ => some k_ ≠ (v195 : Value).ownBlock) ho1 (fun k_ hk_ => hk_.2)); have n3_ := A5_ (hb); clear BK163 HB HO191; have BK163 := n0_; have HO196 := n1_; have HO201 := n2_; have HB := n3_; clear n0_ n1_ n2_ n3_; (try clear hbx); (try clear hbn); (try clear hgn); (try clear hb); (try clear hkp); (try clear ho0); (try clear ho1)) | ((with_reducible refine gate_dst (N := 3) rfl ?_); refine box_event ?hg (N := 3) ?hd (cs := #[.int .i64 0, .int .i64 0, .slice none 0 0]) (t := 75) ?hr ?_; (case hd => rfl); (case hg => rfl); (case hr => first | (go_simp; done) | (go_simp; rfl)); intro gb202 hg w45 hbox hb; have n0_ := A5_ (Kd.R_below q5_20 hb); have n1_ := A5_ (Kd.R_below q5_19 hb); have n2_ := A5_ (blk_below (g := gb163) (o := .cells #[.int .i64 t197, .int .i64 t198, v200] 112 (0, 0)) q5_8 hb); have n3_ := A5_ (below_step q5_7 hb); have n4_ := A5_ (hbox); have n5_ := A5_ ((by rw [hg]; exact (below_size q5_7) : w.heap.size ≤ gb202)); have n6_ := A5_ ((by rw [hg]; exact (below_size q5_7) : w.heap.size ≤ gb202)); have n7_ := A5_ ((by rw [hg]; exact Nat.ne_of_lt (blk_lt (g := gb163) (o := .cells #[.int .i64 t197, .int .i64 t198, v200] 112 (0, 0)) q5_8) : gb163 ≠ gb202)); have n8_ := A5_ ((by rw [hg]; exact Nat.ne_of_gt (blk_lt (g := gb163) (o := .cells #[.int .i64 t197, .int .i64 t198, v200] 112 (0, 0)) q5_8) : gb202 ≠ gb163)); clear HO196 HO201 BK163 HB; have HO196 := n0_; have HO201 := n1_; have BK163 := n2_; have HB := n3_; have BK202 := n4_; have GW202 := n5_; have GE202 := n6_; have NB163_202 := n7_; have NB202_163 := n8_; clear n0_ n1_ n2_ n3_ n4_ n5_ n6_ n7_ n8_; clear hb hbox hg; have hnb46 := NB202_163.out; have hnc46 := NB163_202.out; have hcz47_0 : w45.cell? ⟨gb202, 0, none⟩ = some (.int .i64 0) := bc5_ BK202 0; have hcz47_1 : w45.cell? ⟨gb202, 1, none⟩ = some (.int .i64 0) := bc5_ BK202 1; have hcz47_2 : w45.cell? ⟨gb202, 2, none⟩ = some (.slice none 0 0) := bc5_ BK202 2; have hfz47_0 := blk_frozen BK202.out 0; have hfz47_1 := blk_frozen BK202.out 1; have hfz47_2 := blk_frozen BK202.out 2; obtain ⟨Ao48, co48, eo48⟩ := Kd.R_slice HO196.out; subst eo48; have p203 : 0 ≤ (0 : Int) := q5_23; have q203 : 0 < (t194.length : Int) := of_decide_eq_true q5_22; obtain ⟨ad203, e203, hx203_0, hx203_1, hx203_2, hx203_3⟩ := at_T53 (Kd.R_reads' HO196.out).2.2 0 p203 q203; cases e203; have qi203 : (0 < t194.length) = True := eq_true q5_23; (try rw [show ((0 : Int)).toNat = 0 from rfl] at hx203_0); (try rw [show 0 * 4 = 0 from rfl] at hx203_0); (try rw [Addr.add_zero'] at hx203_0); (try rw [show ((0 : Int)).toNat = 0 from rfl] at hx203_1); (try rw [show 0 * 4 = 0 from rfl] at hx203_1); (try rw [Addr.add_zero'] at hx203_1); (try rw [show ((0 : Int)).toNat = 0 from rfl] at hx203_2); (try rw [show 0 * 4 = 0 from rfl] at hx203_2); (try rw [Addr.add_zero'] at hx203_2); (try rw [show ((0 : Int)).toNat = 0 from rfl] at hx203_3); (try rw [show 0 * 4 = 0 from rfl] at hx203_3); (try rw [Addr.add_zero'] at hx203_3); have hn203_0 : ad203.block ≠ gb202 := Kd.own_blk (Kd.R_ne HO196.out BK202.out (by decide)); have hn203_1 : ad203.block ≠ gb202 := Kd.own_blk (Kd.R_ne HO196.out BK202.out (by decide)); have hn203_2 : ad203.block ≠ gb202 := Kd.own_blk (Kd.R_ne HO196.out BK202.out (by decide)); replace hx203_0 := (cell_far (p := ⟨gb202, 0, none⟩) q5_11 (.int .i64 t192)).trans hx203_0; replace hx203_1 := (cell_far (p := ⟨gb202, 0, none⟩) q5_11 (.int .i64 t192)).trans hx203_1; replace hx203_2 := (cell_far (p := ⟨gb202, 0, none⟩) q5_11 (.int .i64 t192)).trans hx203_2; replace hx203_3 := (cell_far (p := ⟨gb202, 0, none⟩) q5_11 (.int .i64 t192)).trans hx203_3; replace hx203_0 := (cell_far (p := ⟨gb202, 1, none⟩) q5_10 (.int .i64 t193)).trans hx203_0; replace hx203_1 := (cell_far (p := ⟨gb202, 1, none⟩) q5_10 (.int .i64 t193)).trans hx203_1; replace hx203_2 := (cell_far (p := ⟨gb202, 1, none⟩) q5_10 (.int .i64 t193)).trans hx203_2; replace hx203_3 := (cell_far (p := ⟨gb202, 1, none⟩) q5_10 (.int .i64 t193)).trans hx203_3; replace hx203_0 := (cell_far (p := ⟨gb202, 2, none⟩) q5_9 (.slice (some ad203) t194.length co48)).trans hx203_0; replace hx203_1 := (cell_far (p := ⟨gb202, 2, none⟩) q5_9 (.slice (some ad203) t194.length co48)).trans hx203_1; replace hx203_2 := (cell_far (p := ⟨gb202, 2, none⟩) q5_9 (.slice (some ad203) t194.length co48)).trans hx203_2; replace hx203_3 := (cell_far (p := ⟨gb202, 2, none⟩) q5_9 (.slice (some ad203) t194.length co48)).trans hx203_3; clear hn203_0 hn203_1 hn203_2; replace p203 := eq_true p203; replace q203 := eq_true q203; have p204 : 0 ≤ (1 : Int) := q5_23; have q204 : 1 < (t194.length : Int) := of_decide_eq_true q5_22; obtain ⟨ad204, e204, hx204_0, hx204_1, hx204_2, hx204_3⟩ := at_T53 (Kd.R_reads' HO196.out).2.2 1 p204 q204; obtain rfl : ad203 = ad204 := (by injection e204); (try simp only [show (1 : Int).toNat = 1 from rfl, Nat.reduceMul, Nat.reduceEqDiff, Go.Addr.add, ↓reduceIte] at hx204_0); (try simp only [show (1 : Int).toNat = 1 from rfl, Nat.reduceMul, Nat.reduceEqDiff, Go.Addr.add, ↓reduceIte] at hx204_1); (try simp only [show (1 : Int).toNat = 1 from rfl, Nat.reduceMul, Nat.reduceEqDiff, Go.Addr.add, ↓reduceIte] at hx204_2); (try simp only [show (1 : Int).toNat = 1 from rfl, Nat.reduceMul, Nat.reduceEqDiff, Go.Addr.add, ↓reduceIte] at hx204_3); have qi204 : (1 < t194.length) = True := eq_true q5_23; (try rw [show ((1 : Int)).toNat = 1 from rfl] at hx204_0); (try rw [show 1 * 4 = 4 from rfl] at hx204_0); (try rw [show ((1 : Int)).toNat = 1 from rfl] at hx204_1); (try rw [show 1 * 4 = 4 from rfl] at hx204_1); (try rw [show ((1 : Int)).toNat = 1 from rfl] at hx204_2); (try rw [show 1 * 4 = 4 from rfl] at hx204_2); (try rw [show ((1 : Int)).toNat = 1 from rfl] at hx204_3); (try rw [show 1 * 4 = 4 from rfl] at hx204_3); have hn204_0 : ad203.block ≠ gb202 := Kd.own_blk (Kd.R_ne HO196.out BK202.out (by decide)); have hn204_1 : ad203.block ≠ gb202 := Kd.own_blk (Kd.R_ne HO196.out BK202.out (by decide)); have hn204_2 : ad203.block ≠ gb202 := Kd.own_blk (Kd.R_ne HO196.out BK202.out (by decide)); replace hx204_0 := (cell_far (p := ⟨gb202, 0, none⟩) q5_14 (.int .i64 t192)).trans hx204_0; replace hx204_1 := (cell_far (p := ⟨gb202, 0, none⟩) q5_14 (.int .i64 t192)).trans hx204_1; replace hx204_2 := (cell_far (p := ⟨gb202, 0, none⟩) q5_14 (.int .i64 t192)).trans hx204_2; replace hx204_3 := (cell_far (p := ⟨gb202, 0, none⟩) q5_14 (.int .i64 t192)).trans hx204_3; replace hx204_0 := (cell_far (p := ⟨gb202, 1, none⟩) q5_13 (.int .i64 t193)).trans hx204_0; replace hx204_1 := (cell_far (p := ⟨gb202, 1, none⟩) q5_13 (.int .i64 t193)).trans hx204_1; replace hx204_2 := (cell_far (p := ⟨gb202, 1, none⟩) q5_13 (.int .i64 t193)).trans hx204_2; replace hx204_3 := (cell_far (p := ⟨gb202, 1, none⟩) q5_13 (.int .i64 t193)).trans hx204_3; replace hx204_0 := (cell_far (p := ⟨gb202, 2, none⟩) q5_12 (.slice (some ad203) t194.length co48)).trans hx204_0; replace hx204_1 := (cell_far (p := ⟨gb202, 2, none⟩) q5_12 (.slice (some ad203) t194.length co48)).trans hx204_1; replace hx204_2 := (cell_far (p := ⟨gb202, 2, none⟩) q5_12 (.slice (some ad203) t194.length co48)).trans hx204_2; replace hx204_3 := (cell_far (p := ⟨gb202, 2, none⟩) q5_12 (.slice (some ad203) t194.length co48)).trans hx204_3; clear hn204_0 hn204_1 hn204_2; replace p204 := eq_true p204; replace q204 := eq_true q204))
          go_ret
          exact ⟨by first | rfl | (simp [errW_none, errW_some] <;> rfl) | (simp [*, errW_none, errW_some] <;> rfl), by repeat (first | (with_reducible first | exact HB.out | apply below_alloc | apply pw_below_drewN | apply below_drew1 | refine below_set ?_ GE163.out | refine below_set ?_ GE202.out) | exact HB.out)⟩
        ·rw [if_neg c16] at H
         exact absurd H (by simp)
       ·rw [if_neg c15] at H
        have c15b0 : (((rd_T53 t194 0).f0) == 98) = false := beq_eq_false_iff_ne.mpr c15
        have c15b1 : (((rd_T53 t194 0).f0) != 98) = true := bne_iff_ne.mpr c15
        obtain rfl := Option.some.inj H
        obtain ⟨Ao49, co49, eo49⟩ := Kd.R_slice HO_164002.out
        subst eo49
        go_wp2_with (first | ((with_reducible refine gate_callee (f := 72) rfl ?_); refine goesL_ (some 16) rfl rfl Try.func72 q5_15 rfl #[.pointer (some ⟨gb163, 0, none⟩), .int .i64 0, .int .i64 0, .agg #[.int .i32 97, .int .i64 0, .int .i64 0, .int .i64 0]] rfl q5_6 ?_; (with_reducible refine (grid_Board_Put.calls kj2 gb163 t158 t159 (fun k_ => some k_ = (.slice Ao49 t160.length co49 : Value).ownBlock) (.slice Ao49 t160.length co49) t160 0 0 97 0 0 0 t165 t166 t167 t168 w _ ?side2 ?side3 ?side1 ?side4 A7.out).mono ?_); (case side1 => repeat (first | (with_reducible first | exact HB.out | apply below_alloc | apply pw_below_drewN | apply below_drew1 | refine below_set ?_ GE163.out) | exact HB.out)); (case side2 => (with_reducible repeat (first | refine blk_drewN ?_ _ | refine blk_drew ?_ | refine blk_alloc ?_ _)); exact BK163.out); (case side3 => exact GE163.out); (case side4 => exact Kd.R_tight rfl HO_164002.out); rintro e w50 ⟨v169, rfl, ho0, hbx, hb, hkp⟩; refine ⟨_, rfl, ?_⟩; have n0_ := A5_ (hbx); have n1_ := A5_ (Kd.R_mono (ok' := fun k_ => True) ho0 (fun k_ hk_ => trivial)); have n2_ := A5_ (hb); clear BK163 HB HO_164002; have BK163 := n0_; have HO170 := n1_; have HB := n2_; clear n0_ n1_ n2_; (try clear hbx); (try clear hbn); (try clear hgn); (try clear hb); (try clear hkp); (try clear ho0); obtain ⟨Ao51, co51, eo51⟩ := Kd.R_slice HO170.out; subst eo51) | ((with_reducible refine gate_callee (f := 72) rfl ?_); refine goesL_ (some 19) rfl rfl Try.func72 q5_15 rfl #[.pointer (some ⟨gb163, 0, none⟩), .int .i64 1, .int .i64 0, .agg #[.int .i32 98, .int .i64 0, .int .i64 0, .int .i64 0]] rfl q5_6 ?_; (with_reducible refine (grid_Board_Put.calls kj2 gb163 t166 t167 (fun k_ => some k_ = (.slice Ao51 t168.length co51 : Value).ownBlock) (.slice Ao51 t168.length co51) t168 1 0 98 0 0 0 t171 t172 t173 t174 w _ ?side2 ?side3 ?side1 ?side4 A8.out).mono ?_); (case side1 => repeat (first | (with_reducible first | exact HB.out | apply below_alloc | apply pw_below_drewN | apply below_drew1 | refine below_set ?_ GE163.out) | exact HB.out)); (case side2 => (with_reducible repeat (first | refine blk_drewN ?_ _ | refine blk_drew ?_ | refine blk_alloc ?_ _)); exact BK163.out); (case side3 => exact GE163.out); (case side4 => exact Kd.R_tight rfl HO170.out); rintro e w52 ⟨v175, rfl, ho0, hbx, hb, hkp⟩; refine ⟨_, rfl, ?_⟩; have n0_ := A5_ (hbx); have n1_ := A5_ (Kd.R_mono (ok' := fun k_ => True) ho0 (fun k_ hk_ => trivial)); have n2_ := A5_ (hb); clear BK163 HB HO170; have BK163 := n0_; have HO176 := n1_; have HB := n2_; clear n0_ n1_ n2_; (try clear hbx); (try clear hbn); (try clear hgn); (try clear hb); (try clear hkp); (try clear ho0); obtain ⟨Ao53, co53, eo53⟩ := Kd.R_slice HO176.out; subst eo53) | ((with_reducible refine gate_callee (f := 72) rfl ?_); refine goesL_ (some 22) rfl rfl Try.func72 q5_15 rfl #[.pointer (some ⟨gb163, 0, none⟩), .int .i64 2, .int .i64 0, .agg #[.int .i32 99, .int .i64 0, .int .i64 0, .int .i64 0]] rfl q5_6 ?_; (with_reducible refine (grid_Board_Put.calls kj2 gb163 t172 t173 (fun k_ => some k_ = (.slice Ao53 t174.length co53 : Value).ownBlock) (.slice Ao53 t174.length co53) t174 2 0 99 0 0 0 t177 t178 t179 t180 w _ ?side2 ?side3 ?side1 ?side4 A9.out).mono ?_); (case side1 => repeat (first | (with_reducible first | exact HB.out | apply below_alloc | apply pw_below_drewN | apply below_drew1 | refine below_set ?_ GE163.out) | exact HB.out)); (case side2 => (with_reducible repeat (first | refine blk_drewN ?_ _ | refine blk_drew ?_ | refine blk_alloc ?_ _)); exact BK163.out); (case side3 => exact GE163.out); (case side4 => exact Kd.R_tight rfl HO176.out); rintro e w54 ⟨v181, rfl, ho0, hbx, hb, hkp⟩; refine ⟨_, rfl, ?_⟩; have n0_ := A5_ (hbx); have n1_ := A5_ (Kd.R_mono (ok' := fun k_ => True) ho0 (fun k_ hk_ => trivial)); have n2_ := A5_ (hb); clear BK163 HB HO176; have BK163 := n0_; have HO182 := n1_; have HB := n2_; clear n0_ n1_ n2_; (try clear hbx); (try clear hbn); (try clear hgn); (try clear hb); (try clear hkp); (try clear ho0)) | ((with_reducible refine gate_callee (f := 74) rfl ?_); refine goesL_ (some 24) rfl rfl Try.func74 q5_15 rfl #[] rfl q5_6 ?_; (with_reducible refine (batonref10_Blank.calls  t183 t184 t185 t186 _ A10.out).mono ?_); rintro e w55 ⟨rfl, hb⟩; refine ⟨_, rfl, ?_⟩; have n0_ := A5_ (Kd.R_below q5_21 hb); have n1_ := A5_ (blk_below (g := gb163) (o := .cells #[.int .i64 t178, .int .i64 t179, v181] 112 (0, 0)) q5_8 hb); have n2_ := A5_ (below_step q5_7 hb); clear HO182 BK163 HB; have HO182 := n0_; have BK163 := n1_; have HB := n2_; clear n0_ n1_ n2_; (try clear hb); (try clear hb2); (try clear hk); (try clear hi); obtain ⟨Ao56, co56, eo56⟩ := Kd.R_slice HO182.out; subst eo56) | ((with_reducible refine gate_callee (f := 73) rfl ?_); refine goesL_ (some 25) rfl rfl Try.func73 q5_15 rfl #[.pointer (some ⟨gb163, 0, none⟩), .int .i64 0, .int .i64 1, .int .i64 1, .agg #[.int .i32 t183, .int .i64 t184, .int .i64 t185, .int .i64 t186]] rfl q5_6 ?_; (with_reducible refine (grid_Board_Up.calls kj2 gb163 t178 t179 (fun k_ => some k_ = (.slice Ao56 t180.length co56 : Value).ownBlock) (.slice Ao56 t180.length co56) t180 0 1 1 t183 t184 t185 t186 t187 t188 t189 w _ ?side2 ?side3 ?side1 ?side4 A11.out).mono ?_); (case side1 => repeat (first | (with_reducible first | exact HB.out | apply below_alloc | apply pw_below_drewN | apply below_drew1 | refine below_set ?_ GE163.out) | exact HB.out)); (case side2 => (with_reducible repeat (first | refine blk_drewN ?_ _ | refine blk_drew ?_ | refine blk_alloc ?_ _)); exact BK163.out); (case side3 => exact GE163.out); (case side4 => exact Kd.R_tight rfl HO182.out); rintro e w57 ⟨v190, rfl, ho0, hbx, hb, hkp⟩; refine ⟨_, rfl, ?_⟩; have n0_ := A5_ (hbx); have n1_ := A5_ (Kd.R_mono (ok' := fun k_ => True) ho0 (fun k_ hk_ => trivial)); have n2_ := A5_ (hb); clear BK163 HB HO182; have BK163 := n0_; have HO191 := n1_; have HB := n2_; clear n0_ n1_ n2_; (try clear hbx); (try clear hbn); (try clear hgn); (try clear hb); (try clear hkp); (try clear ho0); obtain ⟨Ao58, co58, eo58⟩ := Kd.R_slice HO191.out; subst eo58) | ((with_reducible refine gate_callee (f := 49) rfl ?_); refine goesL_ (some 27) rfl rfl Try.func49 q5_15 rfl #[.pointer (some ⟨gb163, 0, none⟩)] rfl q5_6 ?_; (with_reducible refine (grid_Board_Grid.calls gb163 t187 t188 (fun k_ => some k_ = (.slice Ao58 t189.length co58 : Value).ownBlock) (.slice Ao58 t189.length co58) t189 t192 t193 t194 t197 t198 t199 w _ ?side2 ?side3 ?side1 ?side4 A12.out).mono ?_); (case side1 => repeat (first | (with_reducible first | exact HB.out | apply below_alloc | apply pw_below_drewN | apply below_drew1 | refine below_set ?_ GE163.out) | exact HB.out)); (case side2 => (with_reducible repeat (first | refine blk_drewN ?_ _ | refine blk_drew ?_ | refine blk_alloc ?_ _)); exact BK163.out); (case side3 => exact GE163.out); (case side4 => exact Kd.R_tight rfl HO191.out); rintro e w59 ⟨v195, v200, rfl, ho0, ho1, hbx, hb, hkp⟩; refine ⟨_, rfl, ?_⟩; have n0_ := A5_ (hbx); have n1_ := A5_ (Kd.R_mono (ok' := fun k_ => some k_ ≠ (v200 : Value).ownBlock) ho0 (fun k_ hk_ => hk_.2)); have n2_ := A5_ (Kd.R_mono (ok' := fun k_ => some k_ ≠ (v195 : Value).ownBlock) ho1 (fun k_ hk_ => hk_.2)); have n3_ := A5_ (hb); clear BK163 HB HO191; have BK163 := n0_; have HO196 := n1_; have HO201 := n2_; have HB := n3_; clear n0_ n1_ n2_ n3_; (try clear hbx); (try clear hbn); (try clear hgn); (try clear hb); (try clear hkp); (try clear ho0); (try clear ho1)) | ((with_reducible refine gate_dst (N := 3) rfl ?_); refine box_event ?hg (N := 3) ?hd (cs := #[.int .i64 0, .int .i64 0, .slice none 0 0]) (t := 75) ?hr ?_; (case hd => rfl); (case hg => rfl); (case hr => first | (go_simp; done) | (go_simp; rfl)); intro gb202 hg w60 hbox hb; have n0_ := A5_ (Kd.R_below q5_20 hb); have n1_ := A5_ (Kd.R_below q5_19 hb); have n2_ := A5_ (blk_below (g := gb163) (o := .cells #[.int .i64 t197, .int .i64 t198, v200] 112 (0, 0)) q5_8 hb); have n3_ := A5_ (below_step q5_7 hb); have n4_ := A5_ (hbox); have n5_ := A5_ ((by rw [hg]; exact (below_size q5_7) : w.heap.size ≤ gb202)); have n6_ := A5_ ((by rw [hg]; exact (below_size q5_7) : w.heap.size ≤ gb202)); have n7_ := A5_ ((by rw [hg]; exact Nat.ne_of_lt (blk_lt (g := gb163) (o := .cells #[.int .i64 t197, .int .i64 t198, v200] 112 (0, 0)) q5_8) : gb163 ≠ gb202)); have n8_ := A5_ ((by rw [hg]; exact Nat.ne_of_gt (blk_lt (g := gb163) (o := .cells #[.int .i64 t197, .int .i64 t198, v200] 112 (0, 0)) q5_8) : gb202 ≠ gb163)); clear HO196 HO201 BK163 HB; have HO196 := n0_; have HO201 := n1_; have BK163 := n2_; have HB := n3_; have BK202 := n4_; have GW202 := n5_; have GE202 := n6_; have NB163_202 := n7_; have NB202_163 := n8_; clear n0_ n1_ n2_ n3_ n4_ n5_ n6_ n7_ n8_; clear hb hbox hg; have hnb61 := NB202_163.out; have hnc61 := NB163_202.out; have hcz62_0 : w60.cell? ⟨gb202, 0, none⟩ = some (.int .i64 0) := bc5_ BK202 0; have hcz62_1 : w60.cell? ⟨gb202, 1, none⟩ = some (.int .i64 0) := bc5_ BK202 1; have hcz62_2 : w60.cell? ⟨gb202, 2, none⟩ = some (.slice none 0 0) := bc5_ BK202 2; have hfz62_0 := blk_frozen BK202.out 0; have hfz62_1 := blk_frozen BK202.out 1; have hfz62_2 := blk_frozen BK202.out 2; obtain ⟨Ao63, co63, eo63⟩ := Kd.R_slice HO196.out; subst eo63; have p203 : 0 ≤ (0 : Int) := q5_23; have q203 : 0 < (t194.length : Int) := of_decide_eq_true q5_22; obtain ⟨ad203, e203, hx203_0, hx203_1, hx203_2, hx203_3⟩ := at_T53 (Kd.R_reads' HO196.out).2.2 0 p203 q203; cases e203; have qi203 : (0 < t194.length) = True := eq_true q5_23; (try rw [show ((0 : Int)).toNat = 0 from rfl] at hx203_0); (try rw [show 0 * 4 = 0 from rfl] at hx203_0); (try rw [Addr.add_zero'] at hx203_0); (try rw [show ((0 : Int)).toNat = 0 from rfl] at hx203_1); (try rw [show 0 * 4 = 0 from rfl] at hx203_1); (try rw [Addr.add_zero'] at hx203_1); (try rw [show ((0 : Int)).toNat = 0 from rfl] at hx203_2); (try rw [show 0 * 4 = 0 from rfl] at hx203_2); (try rw [Addr.add_zero'] at hx203_2); (try rw [show ((0 : Int)).toNat = 0 from rfl] at hx203_3); (try rw [show 0 * 4 = 0 from rfl] at hx203_3); (try rw [Addr.add_zero'] at hx203_3); have hn203_0 : ad203.block ≠ gb202 := Kd.own_blk (Kd.R_ne HO196.out BK202.out (by decide)); have hn203_1 : ad203.block ≠ gb202 := Kd.own_blk (Kd.R_ne HO196.out BK202.out (by decide)); have hn203_2 : ad203.block ≠ gb202 := Kd.own_blk (Kd.R_ne HO196.out BK202.out (by decide)); replace hx203_0 := (cell_far (p := ⟨gb202, 0, none⟩) q5_11 (.int .i64 t192)).trans hx203_0; replace hx203_1 := (cell_far (p := ⟨gb202, 0, none⟩) q5_11 (.int .i64 t192)).trans hx203_1; replace hx203_2 := (cell_far (p := ⟨gb202, 0, none⟩) q5_11 (.int .i64 t192)).trans hx203_2; replace hx203_3 := (cell_far (p := ⟨gb202, 0, none⟩) q5_11 (.int .i64 t192)).trans hx203_3; replace hx203_0 := (cell_far (p := ⟨gb202, 1, none⟩) q5_10 (.int .i64 t193)).trans hx203_0; replace hx203_1 := (cell_far (p := ⟨gb202, 1, none⟩) q5_10 (.int .i64 t193)).trans hx203_1; replace hx203_2 := (cell_far (p := ⟨gb202, 1, none⟩) q5_10 (.int .i64 t193)).trans hx203_2; replace hx203_3 := (cell_far (p := ⟨gb202, 1, none⟩) q5_10 (.int .i64 t193)).trans hx203_3; replace hx203_0 := (cell_far (p := ⟨gb202, 2, none⟩) q5_9 (.slice (some ad203) t194.length co63)).trans hx203_0; replace hx203_1 := (cell_far (p := ⟨gb202, 2, none⟩) q5_9 (.slice (some ad203) t194.length co63)).trans hx203_1; replace hx203_2 := (cell_far (p := ⟨gb202, 2, none⟩) q5_9 (.slice (some ad203) t194.length co63)).trans hx203_2; replace hx203_3 := (cell_far (p := ⟨gb202, 2, none⟩) q5_9 (.slice (some ad203) t194.length co63)).trans hx203_3; clear hn203_0 hn203_1 hn203_2; replace p203 := eq_true p203; replace q203 := eq_true q203))
        go_ret
        exact ⟨by first | rfl | (simp [errW_none, errW_some] <;> rfl) | (simp [*, errW_none, errW_some] <;> rfl), by repeat (first | (with_reducible first | exact HB.out | apply below_alloc | apply pw_below_drewN | apply below_drew1 | refine below_set ?_ GE163.out | refine below_set ?_ GE202.out) | exact HB.out)⟩
      ·rw [if_neg c14] at H
       exact absurd H (by simp)
     ·rw [if_neg c13] at H
      have c13b0 : ((t194.length : Int) == 3) = false := beq_eq_false_iff_ne.mpr c13
      have c13b1 : ((t194.length : Int) != 3) = true := bne_iff_ne.mpr c13
      obtain rfl := Option.some.inj H
      obtain ⟨Ao64, co64, eo64⟩ := Kd.R_slice HO_164002.out
      subst eo64
      go_wp2_with (first | ((with_reducible refine gate_callee (f := 72) rfl ?_); refine goesL_ (some 16) rfl rfl Try.func72 q5_15 rfl #[.pointer (some ⟨gb163, 0, none⟩), .int .i64 0, .int .i64 0, .agg #[.int .i32 97, .int .i64 0, .int .i64 0, .int .i64 0]] rfl q5_6 ?_; (with_reducible refine (grid_Board_Put.calls kj2 gb163 t158 t159 (fun k_ => some k_ = (.slice Ao64 t160.length co64 : Value).ownBlock) (.slice Ao64 t160.length co64) t160 0 0 97 0 0 0 t165 t166 t167 t168 w _ ?side2 ?side3 ?side1 ?side4 A7.out).mono ?_); (case side1 => repeat (first | (with_reducible first | exact HB.out | apply below_alloc | apply pw_below_drewN | apply below_drew1 | refine below_set ?_ GE163.out) | exact HB.out)); (case side2 => (with_reducible repeat (first | refine blk_drewN ?_ _ | refine blk_drew ?_ | refine blk_alloc ?_ _)); exact BK163.out); (case side3 => exact GE163.out); (case side4 => exact Kd.R_tight rfl HO_164002.out); rintro e w65 ⟨v169, rfl, ho0, hbx, hb, hkp⟩; refine ⟨_, rfl, ?_⟩; have n0_ := A5_ (hbx); have n1_ := A5_ (Kd.R_mono (ok' := fun k_ => True) ho0 (fun k_ hk_ => trivial)); have n2_ := A5_ (hb); clear BK163 HB HO_164002; have BK163 := n0_; have HO170 := n1_; have HB := n2_; clear n0_ n1_ n2_; (try clear hbx); (try clear hbn); (try clear hgn); (try clear hb); (try clear hkp); (try clear ho0); obtain ⟨Ao66, co66, eo66⟩ := Kd.R_slice HO170.out; subst eo66) | ((with_reducible refine gate_callee (f := 72) rfl ?_); refine goesL_ (some 19) rfl rfl Try.func72 q5_15 rfl #[.pointer (some ⟨gb163, 0, none⟩), .int .i64 1, .int .i64 0, .agg #[.int .i32 98, .int .i64 0, .int .i64 0, .int .i64 0]] rfl q5_6 ?_; (with_reducible refine (grid_Board_Put.calls kj2 gb163 t166 t167 (fun k_ => some k_ = (.slice Ao66 t168.length co66 : Value).ownBlock) (.slice Ao66 t168.length co66) t168 1 0 98 0 0 0 t171 t172 t173 t174 w _ ?side2 ?side3 ?side1 ?side4 A8.out).mono ?_); (case side1 => repeat (first | (with_reducible first | exact HB.out | apply below_alloc | apply pw_below_drewN | apply below_drew1 | refine below_set ?_ GE163.out) | exact HB.out)); (case side2 => (with_reducible repeat (first | refine blk_drewN ?_ _ | refine blk_drew ?_ | refine blk_alloc ?_ _)); exact BK163.out); (case side3 => exact GE163.out); (case side4 => exact Kd.R_tight rfl HO170.out); rintro e w67 ⟨v175, rfl, ho0, hbx, hb, hkp⟩; refine ⟨_, rfl, ?_⟩; have n0_ := A5_ (hbx); have n1_ := A5_ (Kd.R_mono (ok' := fun k_ => True) ho0 (fun k_ hk_ => trivial)); have n2_ := A5_ (hb); clear BK163 HB HO170; have BK163 := n0_; have HO176 := n1_; have HB := n2_; clear n0_ n1_ n2_; (try clear hbx); (try clear hbn); (try clear hgn); (try clear hb); (try clear hkp); (try clear ho0); obtain ⟨Ao68, co68, eo68⟩ := Kd.R_slice HO176.out; subst eo68) | ((with_reducible refine gate_callee (f := 72) rfl ?_); refine goesL_ (some 22) rfl rfl Try.func72 q5_15 rfl #[.pointer (some ⟨gb163, 0, none⟩), .int .i64 2, .int .i64 0, .agg #[.int .i32 99, .int .i64 0, .int .i64 0, .int .i64 0]] rfl q5_6 ?_; (with_reducible refine (grid_Board_Put.calls kj2 gb163 t172 t173 (fun k_ => some k_ = (.slice Ao68 t174.length co68 : Value).ownBlock) (.slice Ao68 t174.length co68) t174 2 0 99 0 0 0 t177 t178 t179 t180 w _ ?side2 ?side3 ?side1 ?side4 A9.out).mono ?_); (case side1 => repeat (first | (with_reducible first | exact HB.out | apply below_alloc | apply pw_below_drewN | apply below_drew1 | refine below_set ?_ GE163.out) | exact HB.out)); (case side2 => (with_reducible repeat (first | refine blk_drewN ?_ _ | refine blk_drew ?_ | refine blk_alloc ?_ _)); exact BK163.out); (case side3 => exact GE163.out); (case side4 => exact Kd.R_tight rfl HO176.out); rintro e w69 ⟨v181, rfl, ho0, hbx, hb, hkp⟩; refine ⟨_, rfl, ?_⟩; have n0_ := A5_ (hbx); have n1_ := A5_ (Kd.R_mono (ok' := fun k_ => True) ho0 (fun k_ hk_ => trivial)); have n2_ := A5_ (hb); clear BK163 HB HO176; have BK163 := n0_; have HO182 := n1_; have HB := n2_; clear n0_ n1_ n2_; (try clear hbx); (try clear hbn); (try clear hgn); (try clear hb); (try clear hkp); (try clear ho0)) | ((with_reducible refine gate_callee (f := 74) rfl ?_); refine goesL_ (some 24) rfl rfl Try.func74 q5_15 rfl #[] rfl q5_6 ?_; (with_reducible refine (batonref10_Blank.calls  t183 t184 t185 t186 _ A10.out).mono ?_); rintro e w70 ⟨rfl, hb⟩; refine ⟨_, rfl, ?_⟩; have n0_ := A5_ (Kd.R_below q5_21 hb); have n1_ := A5_ (blk_below (g := gb163) (o := .cells #[.int .i64 t178, .int .i64 t179, v181] 112 (0, 0)) q5_8 hb); have n2_ := A5_ (below_step q5_7 hb); clear HO182 BK163 HB; have HO182 := n0_; have BK163 := n1_; have HB := n2_; clear n0_ n1_ n2_; (try clear hb); (try clear hb2); (try clear hk); (try clear hi); obtain ⟨Ao71, co71, eo71⟩ := Kd.R_slice HO182.out; subst eo71) | ((with_reducible refine gate_callee (f := 73) rfl ?_); refine goesL_ (some 25) rfl rfl Try.func73 q5_15 rfl #[.pointer (some ⟨gb163, 0, none⟩), .int .i64 0, .int .i64 1, .int .i64 1, .agg #[.int .i32 t183, .int .i64 t184, .int .i64 t185, .int .i64 t186]] rfl q5_6 ?_; (with_reducible refine (grid_Board_Up.calls kj2 gb163 t178 t179 (fun k_ => some k_ = (.slice Ao71 t180.length co71 : Value).ownBlock) (.slice Ao71 t180.length co71) t180 0 1 1 t183 t184 t185 t186 t187 t188 t189 w _ ?side2 ?side3 ?side1 ?side4 A11.out).mono ?_); (case side1 => repeat (first | (with_reducible first | exact HB.out | apply below_alloc | apply pw_below_drewN | apply below_drew1 | refine below_set ?_ GE163.out) | exact HB.out)); (case side2 => (with_reducible repeat (first | refine blk_drewN ?_ _ | refine blk_drew ?_ | refine blk_alloc ?_ _)); exact BK163.out); (case side3 => exact GE163.out); (case side4 => exact Kd.R_tight rfl HO182.out); rintro e w72 ⟨v190, rfl, ho0, hbx, hb, hkp⟩; refine ⟨_, rfl, ?_⟩; have n0_ := A5_ (hbx); have n1_ := A5_ (Kd.R_mono (ok' := fun k_ => True) ho0 (fun k_ hk_ => trivial)); have n2_ := A5_ (hb); clear BK163 HB HO182; have BK163 := n0_; have HO191 := n1_; have HB := n2_; clear n0_ n1_ n2_; (try clear hbx); (try clear hbn); (try clear hgn); (try clear hb); (try clear hkp); (try clear ho0); obtain ⟨Ao73, co73, eo73⟩ := Kd.R_slice HO191.out; subst eo73) | ((with_reducible refine gate_callee (f := 49) rfl ?_); refine goesL_ (some 27) rfl rfl Try.func49 q5_15 rfl #[.pointer (some ⟨gb163, 0, none⟩)] rfl q5_6 ?_; (with_reducible refine (grid_Board_Grid.calls gb163 t187 t188 (fun k_ => some k_ = (.slice Ao73 t189.length co73 : Value).ownBlock) (.slice Ao73 t189.length co73) t189 t192 t193 t194 t197 t198 t199 w _ ?side2 ?side3 ?side1 ?side4 A12.out).mono ?_); (case side1 => repeat (first | (with_reducible first | exact HB.out | apply below_alloc | apply pw_below_drewN | apply below_drew1 | refine below_set ?_ GE163.out) | exact HB.out)); (case side2 => (with_reducible repeat (first | refine blk_drewN ?_ _ | refine blk_drew ?_ | refine blk_alloc ?_ _)); exact BK163.out); (case side3 => exact GE163.out); (case side4 => exact Kd.R_tight rfl HO191.out); rintro e w74 ⟨v195, v200, rfl, ho0, ho1, hbx, hb, hkp⟩; refine ⟨_, rfl, ?_⟩; have n0_ := A5_ (hbx); have n1_ := A5_ (Kd.R_mono (ok' := fun k_ => some k_ ≠ (v200 : Value).ownBlock) ho0 (fun k_ hk_ => hk_.2)); have n2_ := A5_ (Kd.R_mono (ok' := fun k_ => some k_ ≠ (v195 : Value).ownBlock) ho1 (fun k_ hk_ => hk_.2)); have n3_ := A5_ (hb); clear BK163 HB HO191; have BK163 := n0_; have HO196 := n1_; have HO201 := n2_; have HB := n3_; clear n0_ n1_ n2_ n3_; (try clear hbx); (try clear hbn); (try clear hgn); (try clear hb); (try clear hkp); (try clear ho0); (try clear ho1)) | ((with_reducible refine gate_dst (N := 3) rfl ?_); refine box_event ?hg (N := 3) ?hd (cs := #[.int .i64 0, .int .i64 0, .slice none 0 0]) (t := 75) ?hr ?_; (case hd => rfl); (case hg => rfl); (case hr => first | (go_simp; done) | (go_simp; rfl)); intro gb202 hg w75 hbox hb; have n0_ := A5_ (Kd.R_below q5_20 hb); have n1_ := A5_ (Kd.R_below q5_19 hb); have n2_ := A5_ (blk_below (g := gb163) (o := .cells #[.int .i64 t197, .int .i64 t198, v200] 112 (0, 0)) q5_8 hb); have n3_ := A5_ (below_step q5_7 hb); have n4_ := A5_ (hbox); have n5_ := A5_ ((by rw [hg]; exact (below_size q5_7) : w.heap.size ≤ gb202)); have n6_ := A5_ ((by rw [hg]; exact (below_size q5_7) : w.heap.size ≤ gb202)); have n7_ := A5_ ((by rw [hg]; exact Nat.ne_of_lt (blk_lt (g := gb163) (o := .cells #[.int .i64 t197, .int .i64 t198, v200] 112 (0, 0)) q5_8) : gb163 ≠ gb202)); have n8_ := A5_ ((by rw [hg]; exact Nat.ne_of_gt (blk_lt (g := gb163) (o := .cells #[.int .i64 t197, .int .i64 t198, v200] 112 (0, 0)) q5_8) : gb202 ≠ gb163)); clear HO196 HO201 BK163 HB; have HO196 := n0_; have HO201 := n1_; have BK163 := n2_; have HB := n3_; have BK202 := n4_; have GW202 := n5_; have GE202 := n6_; have NB163_202 := n7_; have NB202_163 := n8_; clear n0_ n1_ n2_ n3_ n4_ n5_ n6_ n7_ n8_; clear hb hbox hg; have hnb76 := NB202_163.out; have hnc76 := NB163_202.out; have hcz77_0 : w75.cell? ⟨gb202, 0, none⟩ = some (.int .i64 0) := bc5_ BK202 0; have hcz77_1 : w75.cell? ⟨gb202, 1, none⟩ = some (.int .i64 0) := bc5_ BK202 1; have hcz77_2 : w75.cell? ⟨gb202, 2, none⟩ = some (.slice none 0 0) := bc5_ BK202 2; have hfz77_0 := blk_frozen BK202.out 0; have hfz77_1 := blk_frozen BK202.out 1; have hfz77_2 := blk_frozen BK202.out 2; obtain ⟨Ao78, co78, eo78⟩ := Kd.R_slice HO196.out; subst eo78))
      go_ret
      exact ⟨by first | rfl | (simp [errW_none, errW_some] <;> rfl) | (simp [*, errW_none, errW_some] <;> rfl), by repeat (first | (with_reducible first | exact HB.out | apply below_alloc | apply pw_below_drewN | apply below_drew1 | refine below_set ?_ GE163.out | refine below_set ?_ GE202.out) | exact HB.out)⟩
 ·replace c2 := Bool.eq_false_iff.mpr c2
  subst c2
  have H1 : (if t164 = 0 then (some false) else (some false)) = some r := by rw [if_neg (show ¬ (false = true) by decide)] at H; exact H
  clear H; have H := H1; clear H1
  by_cases c79 : t164 = 0
  ·rw [if_pos c79] at H
   have c79b0 : (t164 == 0) = true := beq_iff_eq.mpr c79
   have c79b1 : (t164 != 0) = false := bne_eq_false_iff_eq.mpr c79
   clear c79
   obtain rfl := Option.some.inj H
   go_enter Try.func46, Try.ntmps46
   go_wp2_with (first | ((with_reducible refine gate_callee (f := 59) rfl ?_); refine goesL_ (some 5) rfl rfl Try.func59 q5_15 rfl #[.int .i64 3, .int .i64 1] rfl q5_6 ?_; (with_reducible refine (grid_New.calls k 3 1 false t158 t159 t160 t164 _ A1.out).mono ?_); rintro e w80 ⟨v161, gb163, rfl, ho0, hbn, hgn, hb⟩; refine ⟨_, rfl, ?_⟩; have n0_ := A5_ (Kd.R_lower ho0 (below_size q5_3)); have n1_ := A5_ (below_step q5_3 hb); clear HB; have HO162 := n0_; have HB := n1_; clear n0_ n1_; (try simp only [ptrW_true, ptrW_false]); (try clear hbn); (try clear hgn); (try clear hb); (try clear hb2); (try clear hk); (try clear hi); (try clear ho0)))
   go_ret
   exact ⟨by first | rfl | (simp [errW_none, errW_some] <;> rfl) | (simp [*, errW_none, errW_some] <;> rfl), by repeat (first | (with_reducible first | exact HB.out | apply below_alloc | apply pw_below_drewN | apply below_drew1) | exact HB.out)⟩
  ·rw [if_neg c79] at H
   have c79b0 : (t164 == 0) = false := beq_eq_false_iff_ne.mpr c79
   have c79b1 : (t164 != 0) = true := bne_iff_ne.mpr c79
   obtain rfl := Option.some.inj H
   go_enter Try.func46, Try.ntmps46
   go_wp2_with (first | ((with_reducible refine gate_callee (f := 59) rfl ?_); refine goesL_ (some 5) rfl rfl Try.func59 q5_15 rfl #[.int .i64 3, .int .i64 1] rfl q5_6 ?_; (with_reducible refine (grid_New.calls k 3 1 false t158 t159 t160 t164 _ A1.out).mono ?_); rintro e w81 ⟨v161, gb163, rfl, ho0, hbn, hgn, hb⟩; refine ⟨_, rfl, ?_⟩; have n0_ := A5_ (Kd.R_lower ho0 (below_size q5_3)); have n1_ := A5_ (below_step q5_3 hb); clear HB; have HO162 := n0_; have HB := n1_; clear n0_ n1_; (try simp only [ptrW_true, ptrW_false]); (try clear hbn); (try clear hgn); (try clear hb); (try clear hb2); (try clear hk); (try clear hi); (try clear ho0)))
   go_ret
   exact ⟨by first | rfl | (simp [errW_none, errW_some] <;> rfl) | (simp [*, errW_none, errW_some] <;> rfl), by repeat (first | (with_reducible first | exact HB.out | apply below_alloc | apply pw_below_drewN | apply below_drew1) | exact HB.out)⟩

/-! ### batonref08_Sign: function 21 -/
def batonref08_Sign.f (a0 : Int) : Option (Bool) := if a0 ≥ 0 then (if a0 ≤ 1114111 then (if a0 < 55296 then (some true) else (some (decide (a0 > 57343)))) else (some false)) else (some false)
set_option maxHeartbeats 8000000 in
set_option maxRecDepth 100000 in
theorem batonref08_Sign.calls (a0 : Int) (r : Bool) (w : World) (h : batonref08_Sign.f a0 = some r) :
  Calls Try.prog 21 #[.int .i64 a0] w fun e w' => e = .returned (.bool r) ∧ Drawn0 w w' := by
 have H : (if a0 ≥ 0 then (if a0 ≤ 1114111 then (if a0 < 55296 then (some true) else (some (decide (a0 > 57343)))) else (some false)) else (some false)) = some r := h
 clear h
 by_cases c2 : a0 ≥ 0
 ·rw [if_pos c2] at H
  have c2b0 : decide (0 ≤ a0) = true := decide_eq_true c2
  clear c2
  by_cases c3 : a0 ≤ 1114111
  ·rw [if_pos c3] at H
   have c3b0 : decide (a0 ≤ 1114111) = true := decide_eq_true c3
   clear c3
   by_cases c4 : a0 < 55296
   ·rw [if_pos c4] at H
    have c4b0 : decide (a0 < 55296) = true := decide_eq_true c4
    clear c4
    obtain rfl := Option.some.inj H
    go_enter Try.func21, Try.ntmps21
    go_wp2
    go_ret
    exact ⟨by first | rfl | (simp; done) | (simp [*]; done), by repeat (first | exact Drawn0.refl _ | apply Drawn0.step)⟩
   ·rw [if_neg c4] at H
    have c4b0 : decide (a0 < 55296) = false := decide_eq_false c4
    clear c4
    obtain rfl := Option.some.inj H
    go_enter Try.func21, Try.ntmps21
    go_wp2
    go_ret
    exact ⟨by first | rfl | (simp; done) | (simp [*]; done), by repeat (first | exact Drawn0.refl _ | apply Drawn0.step)⟩
  ·rw [if_neg c3] at H
   have c3b0 : decide (a0 ≤ 1114111) = false := decide_eq_false c3
   clear c3
   obtain rfl := Option.some.inj H
   go_enter Try.func21, Try.ntmps21
   go_wp2
   go_ret
   exact ⟨by first | rfl | (simp; done) | (simp [*]; done), by repeat (first | exact Drawn0.refl _ | apply Drawn0.step)⟩
 ·rw [if_neg c2] at H
  have c2b0 : decide (0 ≤ a0) = false := decide_eq_false c2
  clear c2
  obtain rfl := Option.some.inj H
  go_enter Try.func21, Try.ntmps21
  go_wp2
  go_ret
  exact ⟨by first | rfl | (simp; done) | (simp [*]; done), by repeat (first | exact Drawn0.refl _ | apply Drawn0.step)⟩

/-! ### batonref09_Right: function 36 -/
def batonref09_Right.f (a0_0 : Int) (a0_1 : Int) (a0_2 : Int) (a0_3 : Int) : Option (Bool) := if a0_1 < 0 then (some false) else (if a0_1 > 256 then (some false) else (if a0_2 < 0 then (some false) else (if a0_2 > 256 then (some false) else (if a0_3 < 0 then (some false) else (if a0_3 > 127 then (some false) else (if (wrap64 (a0_0)) ≥ 32 then (if (wrap64 (a0_0)) ≤ 126 then ((batonref08_Sign.f (wrap64 (a0_0))).bind fun t208 => (some t208)) else (if (wrap64 (a0_0)) ≥ 160 then ((batonref08_Sign.f (wrap64 (a0_0))).bind fun t209 => (some t209)) else (some false))) else (if (wrap64 (a0_0)) ≥ 160 then ((batonref08_Sign.f (wrap64 (a0_0))).bind fun t210 => (some t210)) else (some false))))))))
set_option maxHeartbeats 8000000 in
set_option maxRecDepth 100000 in
theorem batonref09_Right.calls (a0_0 : Int) (a0_1 : Int) (a0_2 : Int) (a0_3 : Int) (r : Bool) (w : World) (h : batonref09_Right.f a0_0 a0_1 a0_2 a0_3 = some r) :
  Calls Try.prog 36 #[.agg #[.int .i32 a0_0, .int .i64 a0_1, .int .i64 a0_2, .int .i64 a0_3]] w fun e w' => e = .returned (.bool r) ∧ Below w.heap.size w w' := by
 have hu53 := Try.underlying53
 have hu51 := Try.underlying51
 have HB := A5_ (Below.refl w.heap.size w)
 have H : (if a0_1 < 0 then (some false) else (if a0_1 > 256 then (some false) else (if a0_2 < 0 then (some false) else (if a0_2 > 256 then (some false) else (if a0_3 < 0 then (some false) else (if a0_3 > 127 then (some false) else (if (wrap64 (a0_0)) ≥ 32 then (if (wrap64 (a0_0)) ≤ 126 then ((batonref08_Sign.f (wrap64 (a0_0))).bind fun t208 => (some t208)) else (if (wrap64 (a0_0)) ≥ 160 then ((batonref08_Sign.f (wrap64 (a0_0))).bind fun t209 => (some t209)) else (some false))) else (if (wrap64 (a0_0)) ≥ 160 then ((batonref08_Sign.f (wrap64 (a0_0))).bind fun t210 => (some t210)) else (some false))))))))) = some r := h
 clear h
 by_cases c2 : a0_1 < 0
 ·rw [if_pos c2] at H
  have c2b0 : decide (a0_1 < 0) = true := decide_eq_true c2
  clear c2
  obtain rfl := Option.some.inj H
  go_enter Try.func36, Try.ntmps36
  go_wp2_with (first | ((with_reducible refine gate_dst (N := 1) rfl ?_); refine box_event ?hg (N := 1) ?hd (cs := #[.int .i32 a0_0, .int .i64 a0_1, .int .i64 a0_2, .int .i64 a0_3]) (t := 53) ?hr ?_; (case hd => rfl); (case hg => rfl); (case hr => first | (go_simp; done) | (go_simp; rfl)); intro gb206 hg w3 hbox hb; have n0_ := A5_ (below_step q5_3 hb); have n1_ := A5_ (hbox); have n2_ := A5_ ((by rw [hg]; exact (below_size q5_3) : w.heap.size ≤ gb206)); have n3_ := A5_ ((by rw [hg]; exact (below_size q5_3) : w.heap.size ≤ gb206)); clear HB; have HB := n0_; have BK206 := n1_; have GW206 := n2_; have GE206 := n3_; clear n0_ n1_ n2_ n3_; clear hb hbox hg; have hcz4_0 : w3.cell? ⟨gb206, 0, none⟩ = some (.int .i32 a0_0) := bc5_ BK206 0; have hcz4_1 : w3.cell? ⟨gb206, 1, none⟩ = some (.int .i64 a0_1) := bc5_ BK206 1; have hcz4_2 : w3.cell? ⟨gb206, 2, none⟩ = some (.int .i64 a0_2) := bc5_ BK206 2; have hcz4_3 : w3.cell? ⟨gb206, 3, none⟩ = some (.int .i64 a0_3) := bc5_ BK206 3; have hfz4_0 := blk_frozen BK206.out 0; have hfz4_1 := blk_frozen BK206.out 1; have hfz4_2 := blk_frozen BK206.out 2; have hfz4_3 := blk_frozen BK206.out 3) | ((with_reducible refine gate_dst (N := 3) rfl ?_); refine box_event ?hg (N := 3) ?hd (cs := #[.int .i64 0, .int .i64 0, .int .i64 0]) (t := 51) ?hr ?_; (case hd => rfl); (case hg => rfl); (case hr => first | (go_simp; done) | (go_simp; rfl)); intro gb207 hg w5 hbox hb; have n0_ := A5_ (blk_below (g := gb206) (o := .cells #[.int .i32 a0_0, .int .i64 a0_1, .int .i64 a0_2, .int .i64 a0_3] 53 (0, 0)) q5_5 hb); have n1_ := A5_ (below_step q5_4 hb); have n2_ := A5_ (hbox); have n3_ := A5_ ((by rw [hg]; exact (below_size q5_4) : w.heap.size ≤ gb207)); have n4_ := A5_ ((by rw [hg]; exact (below_size q5_4) : w.heap.size ≤ gb207)); have n5_ := A5_ ((by rw [hg]; exact Nat.ne_of_lt (blk_lt (g := gb206) (o := .cells #[.int .i32 a0_0, .int .i64 a0_1, .int .i64 a0_2, .int .i64 a0_3] 53 (0, 0)) q5_5) : gb206 ≠ gb207)); have n6_ := A5_ ((by rw [hg]; exact Nat.ne_of_gt (blk_lt (g := gb206) (o := .cells #[.int .i32 a0_0, .int .i64 a0_1, .int .i64 a0_2, .int .i64 a0_3] 53 (0, 0)) q5_5) : gb207 ≠ gb206)); clear BK206 HB; have BK206 := n0_; have HB := n1_; have BK207 := n2_; have GW207 := n3_; have GE207 := n4_; have NB206_207 := n5_; have NB207_206 := n6_; clear n0_ n1_ n2_ n3_ n4_ n5_ n6_; clear hb hbox hg; have hnb6 := NB207_206.out; have hnc6 := NB206_207.out; have hcz7_0 : w5.cell? ⟨gb207, 0, none⟩ = some (.int .i64 0) := bc5_ BK207 0; have hcz7_1 : w5.cell? ⟨gb207, 1, none⟩ = some (.int .i64 0) := bc5_ BK207 1; have hcz7_2 : w5.cell? ⟨gb207, 2, none⟩ = some (.int .i64 0) := bc5_ BK207 2; have hfz7_0 := blk_frozen BK207.out 0; have hfz7_1 := blk_frozen BK207.out 1; have hfz7_2 := blk_frozen BK207.out 2))
  go_ret
  exact ⟨by first | rfl | (simp [errW_none, errW_some] <;> rfl) | (simp [*, errW_none, errW_some] <;> rfl), by repeat (first | (with_reducible first | exact HB.out | apply below_alloc | apply pw_below_drewN | apply below_drew1 | refine below_set ?_ GE206.out | refine below_set ?_ GE207.out) | exact HB.out)⟩
 ·rw [if_neg c2] at H
  have c2b0 : decide (a0_1 < 0) = false := decide_eq_false c2
  clear c2
  by_cases c8 : a0_1 > 256
  ·rw [if_pos c8] at H
   have c8b0 : decide (256 < a0_1) = true := decide_eq_true c8
   clear c8
   obtain rfl := Option.some.inj H
   go_enter Try.func36, Try.ntmps36
   go_wp2_with (first | ((with_reducible refine gate_dst (N := 1) rfl ?_); refine box_event ?hg (N := 1) ?hd (cs := #[.int .i32 a0_0, .int .i64 a0_1, .int .i64 a0_2, .int .i64 a0_3]) (t := 53) ?hr ?_; (case hd => rfl); (case hg => rfl); (case hr => first | (go_simp; done) | (go_simp; rfl)); intro gb206 hg w9 hbox hb; have n0_ := A5_ (below_step q5_3 hb); have n1_ := A5_ (hbox); have n2_ := A5_ ((by rw [hg]; exact (below_size q5_3) : w.heap.size ≤ gb206)); have n3_ := A5_ ((by rw [hg]; exact (below_size q5_3) : w.heap.size ≤ gb206)); clear HB; have HB := n0_; have BK206 := n1_; have GW206 := n2_; have GE206 := n3_; clear n0_ n1_ n2_ n3_; clear hb hbox hg; have hcz10_0 : w9.cell? ⟨gb206, 0, none⟩ = some (.int .i32 a0_0) := bc5_ BK206 0; have hcz10_1 : w9.cell? ⟨gb206, 1, none⟩ = some (.int .i64 a0_1) := bc5_ BK206 1; have hcz10_2 : w9.cell? ⟨gb206, 2, none⟩ = some (.int .i64 a0_2) := bc5_ BK206 2; have hcz10_3 : w9.cell? ⟨gb206, 3, none⟩ = some (.int .i64 a0_3) := bc5_ BK206 3; have hfz10_0 := blk_frozen BK206.out 0; have hfz10_1 := blk_frozen BK206.out 1; have hfz10_2 := blk_frozen BK206.out 2; have hfz10_3 := blk_frozen BK206.out 3) | ((with_reducible refine gate_dst (N := 3) rfl ?_); refine box_event ?hg (N := 3) ?hd (cs := #[.int .i64 0, .int .i64 0, .int .i64 0]) (t := 51) ?hr ?_; (case hd => rfl); (case hg => rfl); (case hr => first | (go_simp; done) | (go_simp; rfl)); intro gb207 hg w11 hbox hb; have n0_ := A5_ (blk_below (g := gb206) (o := .cells #[.int .i32 a0_0, .int .i64 a0_1, .int .i64 a0_2, .int .i64 a0_3] 53 (0, 0)) q5_5 hb); have n1_ := A5_ (below_step q5_4 hb); have n2_ := A5_ (hbox); have n3_ := A5_ ((by rw [hg]; exact (below_size q5_4) : w.heap.size ≤ gb207)); have n4_ := A5_ ((by rw [hg]; exact (below_size q5_4) : w.heap.size ≤ gb207)); have n5_ := A5_ ((by rw [hg]; exact Nat.ne_of_lt (blk_lt (g := gb206) (o := .cells #[.int .i32 a0_0, .int .i64 a0_1, .int .i64 a0_2, .int .i64 a0_3] 53 (0, 0)) q5_5) : gb206 ≠ gb207)); have n6_ := A5_ ((by rw [hg]; exact Nat.ne_of_gt (blk_lt (g := gb206) (o := .cells #[.int .i32 a0_0, .int .i64 a0_1, .int .i64 a0_2, .int .i64 a0_3] 53 (0, 0)) q5_5) : gb207 ≠ gb206)); clear BK206 HB; have BK206 := n0_; have HB := n1_; have BK207 := n2_; have GW207 := n3_; have GE207 := n4_; have NB206_207 := n5_; have NB207_206 := n6_; clear n0_ n1_ n2_ n3_ n4_ n5_ n6_; clear hb hbox hg; have hnb12 := NB207_206.out; have hnc12 := NB206_207.out; have hcz13_0 : w11.cell? ⟨gb207, 0, none⟩ = some (.int .i64 0) := bc5_ BK207 0; have hcz13_1 : w11.cell? ⟨gb207, 1, none⟩ = some (.int .i64 0) := bc5_ BK207 1; have hcz13_2 : w11.cell? ⟨gb207, 2, none⟩ = some (.int .i64 0) := bc5_ BK207 2; have hfz13_0 := blk_frozen BK207.out 0; have hfz13_1 := blk_frozen BK207.out 1; have hfz13_2 := blk_frozen BK207.out 2))
   go_ret
   exact ⟨by first | rfl | (simp [errW_none, errW_some] <;> rfl) | (simp [*, errW_none, errW_some] <;> rfl), by repeat (first | (with_reducible first | exact HB.out | apply below_alloc | apply pw_below_drewN | apply below_drew1 | refine below_set ?_ GE206.out | refine below_set ?_ GE207.out) | exact HB.out)⟩
  ·rw [if_neg c8] at H
   have c8b0 : decide (256 < a0_1) = false := decide_eq_false c8
   clear c8
   by_cases c14 : a0_2 < 0
   ·rw [if_pos c14] at H
    have c14b0 : decide (a0_2 < 0) = true := decide_eq_true c14
    clear c14
    obtain rfl := Option.some.inj H
    go_enter Try.func36, Try.ntmps36
    go_wp2_with (first | ((with_reducible refine gate_dst (N := 1) rfl ?_); refine box_event ?hg (N := 1) ?hd (cs := #[.int .i32 a0_0, .int .i64 a0_1, .int .i64 a0_2, .int .i64 a0_3]) (t := 53) ?hr ?_; (case hd => rfl); (case hg => rfl); (case hr => first | (go_simp; done) | (go_simp; rfl)); intro gb206 hg w15 hbox hb; have n0_ := A5_ (below_step q5_3 hb); have n1_ := A5_ (hbox); have n2_ := A5_ ((by rw [hg]; exact (below_size q5_3) : w.heap.size ≤ gb206)); have n3_ := A5_ ((by rw [hg]; exact (below_size q5_3) : w.heap.size ≤ gb206)); clear HB; have HB := n0_; have BK206 := n1_; have GW206 := n2_; have GE206 := n3_; clear n0_ n1_ n2_ n3_; clear hb hbox hg; have hcz16_0 : w15.cell? ⟨gb206, 0, none⟩ = some (.int .i32 a0_0) := bc5_ BK206 0; have hcz16_1 : w15.cell? ⟨gb206, 1, none⟩ = some (.int .i64 a0_1) := bc5_ BK206 1; have hcz16_2 : w15.cell? ⟨gb206, 2, none⟩ = some (.int .i64 a0_2) := bc5_ BK206 2; have hcz16_3 : w15.cell? ⟨gb206, 3, none⟩ = some (.int .i64 a0_3) := bc5_ BK206 3; have hfz16_0 := blk_frozen BK206.out 0; have hfz16_1 := blk_frozen BK206.out 1; have hfz16_2 := blk_frozen BK206.out 2; have hfz16_3 := blk_frozen BK206.out 3) | ((with_reducible refine gate_dst (N := 3) rfl ?_); refine box_event ?hg (N := 3) ?hd (cs := #[.int .i64 0, .int .i64 0, .int .i64 0]) (t := 51) ?hr ?_; (case hd => rfl); (case hg => rfl); (case hr => first | (go_simp; done) | (go_simp; rfl)); intro gb207 hg w17 hbox hb; have n0_ := A5_ (blk_below (g := gb206) (o := .cells #[.int .i32 a0_0, .int .i64 a0_1, .int .i64 a0_2, .int .i64 a0_3] 53 (0, 0)) q5_5 hb); have n1_ := A5_ (below_step q5_4 hb); have n2_ := A5_ (hbox); have n3_ := A5_ ((by rw [hg]; exact (below_size q5_4) : w.heap.size ≤ gb207)); have n4_ := A5_ ((by rw [hg]; exact (below_size q5_4) : w.heap.size ≤ gb207)); have n5_ := A5_ ((by rw [hg]; exact Nat.ne_of_lt (blk_lt (g := gb206) (o := .cells #[.int .i32 a0_0, .int .i64 a0_1, .int .i64 a0_2, .int .i64 a0_3] 53 (0, 0)) q5_5) : gb206 ≠ gb207)); have n6_ := A5_ ((by rw [hg]; exact Nat.ne_of_gt (blk_lt (g := gb206) (o := .cells #[.int .i32 a0_0, .int .i64 a0_1, .int .i64 a0_2, .int .i64 a0_3] 53 (0, 0)) q5_5) : gb207 ≠ gb206)); clear BK206 HB; have BK206 := n0_; have HB := n1_; have BK207 := n2_; have GW207 := n3_; have GE207 := n4_; have NB206_207 := n5_; have NB207_206 := n6_; clear n0_ n1_ n2_ n3_ n4_ n5_ n6_; clear hb hbox hg; have hnb18 := NB207_206.out; have hnc18 := NB206_207.out; have hcz19_0 : w17.cell? ⟨gb207, 0, none⟩ = some (.int .i64 0) := bc5_ BK207 0; have hcz19_1 : w17.cell? ⟨gb207, 1, none⟩ = some (.int .i64 0) := bc5_ BK207 1; have hcz19_2 : w17.cell? ⟨gb207, 2, none⟩ = some (.int .i64 0) := bc5_ BK207 2; have hfz19_0 := blk_frozen BK207.out 0; have hfz19_1 := blk_frozen BK207.out 1; have hfz19_2 := blk_frozen BK207.out 2))
    go_ret
    exact ⟨by first | rfl | (simp [errW_none, errW_some] <;> rfl) | (simp [*, errW_none, errW_some] <;> rfl), by repeat (first | (with_reducible first | exact HB.out | apply below_alloc | apply pw_below_drewN | apply below_drew1 | refine below_set ?_ GE206.out | refine below_set ?_ GE207.out) | exact HB.out)⟩
   ·rw [if_neg c14] at H
    have c14b0 : decide (a0_2 < 0) = false := decide_eq_false c14
    clear c14
    by_cases c20 : a0_2 > 256
    ·rw [if_pos c20] at H
     have c20b0 : decide (256 < a0_2) = true := decide_eq_true c20
     clear c20
     obtain rfl := Option.some.inj H
     go_enter Try.func36, Try.ntmps36
     go_wp2_with (first | ((with_reducible refine gate_dst (N := 1) rfl ?_); refine box_event ?hg (N := 1) ?hd (cs := #[.int .i32 a0_0, .int .i64 a0_1, .int .i64 a0_2, .int .i64 a0_3]) (t := 53) ?hr ?_; (case hd => rfl); (case hg => rfl); (case hr => first | (go_simp; done) | (go_simp; rfl)); intro gb206 hg w21 hbox hb; have n0_ := A5_ (below_step q5_3 hb); have n1_ := A5_ (hbox); have n2_ := A5_ ((by rw [hg]; exact (below_size q5_3) : w.heap.size ≤ gb206)); have n3_ := A5_ ((by rw [hg]; exact (below_size q5_3) : w.heap.size ≤ gb206)); clear HB; have HB := n0_; have BK206 := n1_; have GW206 := n2_; have GE206 := n3_; clear n0_ n1_ n2_ n3_; clear hb hbox hg; have hcz22_0 : w21.cell? ⟨gb206, 0, none⟩ = some (.int .i32 a0_0) := bc5_ BK206 0; have hcz22_1 : w21.cell? ⟨gb206, 1, none⟩ = some (.int .i64 a0_1) := bc5_ BK206 1; have hcz22_2 : w21.cell? ⟨gb206, 2, none⟩ = some (.int .i64 a0_2) := bc5_ BK206 2; have hcz22_3 : w21.cell? ⟨gb206, 3, none⟩ = some (.int .i64 a0_3) := bc5_ BK206 3; have hfz22_0 := blk_frozen BK206.out 0; have hfz22_1 := blk_frozen BK206.out 1; have hfz22_2 := blk_frozen BK206.out 2; have hfz22_3 := blk_frozen BK206.out 3) | ((with_reducible refine gate_dst (N := 3) rfl ?_); refine box_event ?hg (N := 3) ?hd (cs := #[.int .i64 0, .int .i64 0, .int .i64 0]) (t := 51) ?hr ?_; (case hd => rfl); (case hg => rfl); (case hr => first | (go_simp; done) | (go_simp; rfl)); intro gb207 hg w23 hbox hb; have n0_ := A5_ (blk_below (g := gb206) (o := .cells #[.int .i32 a0_0, .int .i64 a0_1, .int .i64 a0_2, .int .i64 a0_3] 53 (0, 0)) q5_5 hb); have n1_ := A5_ (below_step q5_4 hb); have n2_ := A5_ (hbox); have n3_ := A5_ ((by rw [hg]; exact (below_size q5_4) : w.heap.size ≤ gb207)); have n4_ := A5_ ((by rw [hg]; exact (below_size q5_4) : w.heap.size ≤ gb207)); have n5_ := A5_ ((by rw [hg]; exact Nat.ne_of_lt (blk_lt (g := gb206) (o := .cells #[.int .i32 a0_0, .int .i64 a0_1, .int .i64 a0_2, .int .i64 a0_3] 53 (0, 0)) q5_5) : gb206 ≠ gb207)); have n6_ := A5_ ((by rw [hg]; exact Nat.ne_of_gt (blk_lt (g := gb206) (o := .cells #[.int .i32 a0_0, .int .i64 a0_1, .int .i64 a0_2, .int .i64 a0_3] 53 (0, 0)) q5_5) : gb207 ≠ gb206)); clear BK206 HB; have BK206 := n0_; have HB := n1_; have BK207 := n2_; have GW207 := n3_; have GE207 := n4_; have NB206_207 := n5_; have NB207_206 := n6_; clear n0_ n1_ n2_ n3_ n4_ n5_ n6_; clear hb hbox hg; have hnb24 := NB207_206.out; have hnc24 := NB206_207.out; have hcz25_0 : w23.cell? ⟨gb207, 0, none⟩ = some (.int .i64 0) := bc5_ BK207 0; have hcz25_1 : w23.cell? ⟨gb207, 1, none⟩ = some (.int .i64 0) := bc5_ BK207 1; have hcz25_2 : w23.cell? ⟨gb207, 2, none⟩ = some (.int .i64 0) := bc5_ BK207 2; have hfz25_0 := blk_frozen BK207.out 0; have hfz25_1 := blk_frozen BK207.out 1; have hfz25_2 := blk_frozen BK207.out 2))
     go_ret
     exact ⟨by first | rfl | (simp [errW_none, errW_some] <;> rfl) | (simp [*, errW_none, errW_some] <;> rfl), by repeat (first | (with_reducible first | exact HB.out | apply below_alloc | apply pw_below_drewN | apply below_drew1 | refine below_set ?_ GE206.out | refine below_set ?_ GE207.out) | exact HB.out)⟩
    ·rw [if_neg c20] at H
     have c20b0 : decide (256 < a0_2) = false := decide_eq_false c20
     clear c20
     by_cases c26 : a0_3 < 0
     ·rw [if_pos c26] at H
      have c26b0 : decide (a0_3 < 0) = true := decide_eq_true c26
      clear c26
      obtain rfl := Option.some.inj H
      go_enter Try.func36, Try.ntmps36
      go_wp2_with (first | ((with_reducible refine gate_dst (N := 1) rfl ?_); refine box_event ?hg (N := 1) ?hd (cs := #[.int .i32 a0_0, .int .i64 a0_1, .int .i64 a0_2, .int .i64 a0_3]) (t := 53) ?hr ?_; (case hd => rfl); (case hg => rfl); (case hr => first | (go_simp; done) | (go_simp; rfl)); intro gb206 hg w27 hbox hb; have n0_ := A5_ (below_step q5_3 hb); have n1_ := A5_ (hbox); have n2_ := A5_ ((by rw [hg]; exact (below_size q5_3) : w.heap.size ≤ gb206)); have n3_ := A5_ ((by rw [hg]; exact (below_size q5_3) : w.heap.size ≤ gb206)); clear HB; have HB := n0_; have BK206 := n1_; have GW206 := n2_; have GE206 := n3_; clear n0_ n1_ n2_ n3_; clear hb hbox hg; have hcz28_0 : w27.cell? ⟨gb206, 0, none⟩ = some (.int .i32 a0_0) := bc5_ BK206 0; have hcz28_1 : w27.cell? ⟨gb206, 1, none⟩ = some (.int .i64 a0_1) := bc5_ BK206 1; have hcz28_2 : w27.cell? ⟨gb206, 2, none⟩ = some (.int .i64 a0_2) := bc5_ BK206 2; have hcz28_3 : w27.cell? ⟨gb206, 3, none⟩ = some (.int .i64 a0_3) := bc5_ BK206 3; have hfz28_0 := blk_frozen BK206.out 0; have hfz28_1 := blk_frozen BK206.out 1; have hfz28_2 := blk_frozen BK206.out 2; have hfz28_3 := blk_frozen BK206.out 3) | ((with_reducible refine gate_dst (N := 3) rfl ?_); refine box_event ?hg (N := 3) ?hd (cs := #[.int .i64 0, .int .i64 0, .int .i64 0]) (t := 51) ?hr ?_; (case hd => rfl); (case hg => rfl); (case hr => first | (go_simp; done) | (go_simp; rfl)); intro gb207 hg w29 hbox hb; have n0_ := A5_ (blk_below (g := gb206) (o := .cells #[.int .i32 a0_0, .int .i64 a0_1, .int .i64 a0_2, .int .i64 a0_3] 53 (0, 0)) q5_5 hb); have n1_ := A5_ (below_step q5_4 hb); have n2_ := A5_ (hbox); have n3_ := A5_ ((by rw [hg]; exact (below_size q5_4) : w.heap.size ≤ gb207)); have n4_ := A5_ ((by rw [hg]; exact (below_size q5_4) : w.heap.size ≤ gb207)); have n5_ := A5_ ((by rw [hg]; exact Nat.ne_of_lt (blk_lt (g := gb206) (o := .cells #[.int .i32 a0_0, .int .i64 a0_1, .int .i64 a0_2, .int .i64 a0_3] 53 (0, 0)) q5_5) : gb206 ≠ gb207)); have n6_ := A5_ ((by rw [hg]; exact Nat.ne_of_gt (blk_lt (g := gb206) (o := .cells #[.int .i32 a0_0, .int .i64 a0_1, .int .i64 a0_2, .int .i64 a0_3] 53 (0, 0)) q5_5) : gb207 ≠ gb206)); clear BK206 HB; have BK206 := n0_; have HB := n1_; have BK207 := n2_; have GW207 := n3_; have GE207 := n4_; have NB206_207 := n5_; have NB207_206 := n6_; clear n0_ n1_ n2_ n3_ n4_ n5_ n6_; clear hb hbox hg; have hnb30 := NB207_206.out; have hnc30 := NB206_207.out; have hcz31_0 : w29.cell? ⟨gb207, 0, none⟩ = some (.int .i64 0) := bc5_ BK207 0; have hcz31_1 : w29.cell? ⟨gb207, 1, none⟩ = some (.int .i64 0) := bc5_ BK207 1; have hcz31_2 : w29.cell? ⟨gb207, 2, none⟩ = some (.int .i64 0) := bc5_ BK207 2; have hfz31_0 := blk_frozen BK207.out 0; have hfz31_1 := blk_frozen BK207.out 1; have hfz31_2 := blk_frozen BK207.out 2))
      go_ret
      exact ⟨by first | rfl | (simp [errW_none, errW_some] <;> rfl) | (simp [*, errW_none, errW_some] <;> rfl), by repeat (first | (with_reducible first | exact HB.out | apply below_alloc | apply pw_below_drewN | apply below_drew1 | refine below_set ?_ GE206.out | refine below_set ?_ GE207.out) | exact HB.out)⟩
     ·rw [if_neg c26] at H
      have c26b0 : decide (a0_3 < 0) = false := decide_eq_false c26
      clear c26
      by_cases c32 : a0_3 > 127
      ·rw [if_pos c32] at H
       have c32b0 : decide (127 < a0_3) = true := decide_eq_true c32
       clear c32
       obtain rfl := Option.some.inj H
       go_enter Try.func36, Try.ntmps36
       go_wp2_with (first | ((with_reducible refine gate_dst (N := 1) rfl ?_); refine box_event ?hg (N := 1) ?hd (cs := #[.int .i32 a0_0, .int .i64 a0_1, .int .i64 a0_2, .int .i64 a0_3]) (t := 53) ?hr ?_; (case hd => rfl); (case hg => rfl); (case hr => first | (go_simp; done) | (go_simp; rfl)); intro gb206 hg w33 hbox hb; have n0_ := A5_ (below_step q5_3 hb); have n1_ := A5_ (hbox); have n2_ := A5_ ((by rw [hg]; exact (below_size q5_3) : w.heap.size ≤ gb206)); have n3_ := A5_ ((by rw [hg]; exact (below_size q5_3) : w.heap.size ≤ gb206)); clear HB; have HB := n0_; have BK206 := n1_; have GW206 := n2_; have GE206 := n3_; clear n0_ n1_ n2_ n3_; clear hb hbox hg; have hcz34_0 : w33.cell? ⟨gb206, 0, none⟩ = some (.int .i32 a0_0) := bc5_ BK206 0; have hcz34_1 : w33.cell? ⟨gb206, 1, none⟩ = some (.int .i64 a0_1) := bc5_ BK206 1; have hcz34_2 : w33.cell? ⟨gb206, 2, none⟩ = some (.int .i64 a0_2) := bc5_ BK206 2; have hcz34_3 : w33.cell? ⟨gb206, 3, none⟩ = some (.int .i64 a0_3) := bc5_ BK206 3; have hfz34_0 := blk_frozen BK206.out 0; have hfz34_1 := blk_frozen BK206.out 1; have hfz34_2 := blk_frozen BK206.out 2; have hfz34_3 := blk_frozen BK206.out 3) | ((with_reducible refine gate_dst (N := 3) rfl ?_); refine box_event ?hg (N := 3) ?hd (cs := #[.int .i64 0, .int .i64 0, .int .i64 0]) (t := 51) ?hr ?_; (case hd => rfl); (case hg => rfl); (case hr => first | (go_simp; done) | (go_simp; rfl)); intro gb207 hg w35 hbox hb; have n0_ := A5_ (blk_below (g := gb206) (o := .cells #[.int .i32 a0_0, .int .i64 a0_1, .int .i64 a0_2, .int .i64 a0_3] 53 (0, 0)) q5_5 hb); have n1_ := A5_ (below_step q5_4 hb); have n2_ := A5_ (hbox); have n3_ := A5_ ((by rw [hg]; exact (below_size q5_4) : w.heap.size ≤ gb207)); have n4_ := A5_ ((by rw [hg]; exact (below_size q5_4) : w.heap.size ≤ gb207)); have n5_ := A5_ ((by rw [hg]; exact Nat.ne_of_lt (blk_lt (g := gb206) (o := .cells #[.int .i32 a0_0, .int .i64 a0_1, .int .i64 a0_2, .int .i64 a0_3] 53 (0, 0)) q5_5) : gb206 ≠ gb207)); have n6_ := A5_ ((by rw [hg]; exact Nat.ne_of_gt (blk_lt (g := gb206) (o := .cells #[.int .i32 a0_0, .int .i64 a0_1, .int .i64 a0_2, .int .i64 a0_3] 53 (0, 0)) q5_5) : gb207 ≠ gb206)); clear BK206 HB; have BK206 := n0_; have HB := n1_; have BK207 := n2_; have GW207 := n3_; have GE207 := n4_; have NB206_207 := n5_; have NB207_206 := n6_; clear n0_ n1_ n2_ n3_ n4_ n5_ n6_; clear hb hbox hg; have hnb36 := NB207_206.out; have hnc36 := NB206_207.out; have hcz37_0 : w35.cell? ⟨gb207, 0, none⟩ = some (.int .i64 0) := bc5_ BK207 0; have hcz37_1 : w35.cell? ⟨gb207, 1, none⟩ = some (.int .i64 0) := bc5_ BK207 1; have hcz37_2 : w35.cell? ⟨gb207, 2, none⟩ = some (.int .i64 0) := bc5_ BK207 2; have hfz37_0 := blk_frozen BK207.out 0; have hfz37_1 := blk_frozen BK207.out 1; have hfz37_2 := blk_frozen BK207.out 2))
       go_ret
       exact ⟨by first | rfl | (simp [errW_none, errW_some] <;> rfl) | (simp [*, errW_none, errW_some] <;> rfl), by repeat (first | (with_reducible first | exact HB.out | apply below_alloc | apply pw_below_drewN | apply below_drew1 | refine below_set ?_ GE206.out | refine below_set ?_ GE207.out) | exact HB.out)⟩
      ·rw [if_neg c32] at H
       have c32b0 : decide (127 < a0_3) = false := decide_eq_false c32
       clear c32
       by_cases c38 : (wrap64 (a0_0)) ≥ 32
       ·rw [if_pos c38] at H
        have c38b0 : decide (32 ≤ (wrap64 (a0_0))) = true := decide_eq_true c38
        clear c38
        by_cases c39 : (wrap64 (a0_0)) ≤ 126
        ·rw [if_pos c39] at H
         have c39b0 : decide ((wrap64 (a0_0)) ≤ 126) = true := decide_eq_true c39
         clear c39
         replace H := Option.bind_eq_some_iff.mp H
         obtain ⟨t208, A400, H⟩ := H
         replace H : (some t208) = some r := H
         have A40 := A5_ A400
         clear A400
         obtain rfl := Option.some.inj H
         go_enter Try.func36, Try.ntmps36
         go_wp2_with (first | ((with_reducible refine gate_dst (N := 1) rfl ?_); refine box_event ?hg (N := 1) ?hd (cs := #[.int .i32 a0_0, .int .i64 a0_1, .int .i64 a0_2, .int .i64 a0_3]) (t := 53) ?hr ?_; (case hd => rfl); (case hg => rfl); (case hr => first | (go_simp; done) | (go_simp; rfl)); intro gb206 hg w41 hbox hb; have n0_ := A5_ (below_step q5_3 hb); have n1_ := A5_ (hbox); have n2_ := A5_ ((by rw [hg]; exact (below_size q5_3) : w.heap.size ≤ gb206)); have n3_ := A5_ ((by rw [hg]; exact (below_size q5_3) : w.heap.size ≤ gb206)); clear HB; have HB := n0_; have BK206 := n1_; have GW206 := n2_; have GE206 := n3_; clear n0_ n1_ n2_ n3_; clear hb hbox hg; have hcz42_0 : w41.cell? ⟨gb206, 0, none⟩ = some (.int .i32 a0_0) := bc5_ BK206 0; have hcz42_1 : w41.cell? ⟨gb206, 1, none⟩ = some (.int .i64 a0_1) := bc5_ BK206 1; have hcz42_2 : w41.cell? ⟨gb206, 2, none⟩ = some (.int .i64 a0_2) := bc5_ BK206 2; have hcz42_3 : w41.cell? ⟨gb206, 3, none⟩ = some (.int .i64 a0_3) := bc5_ BK206 3; have hfz42_0 := blk_frozen BK206.out 0; have hfz42_1 := blk_frozen BK206.out 1; have hfz42_2 := blk_frozen BK206.out 2; have hfz42_3 := blk_frozen BK206.out 3) | ((with_reducible refine gate_dst (N := 3) rfl ?_); refine box_event ?hg (N := 3) ?hd (cs := #[.int .i64 0, .int .i64 0, .int .i64 0]) (t := 51) ?hr ?_; (case hd => rfl); (case hg => rfl); (case hr => first | (go_simp; done) | (go_simp; rfl)); intro gb207 hg w43 hbox hb; have n0_ := A5_ (blk_below (g := gb206) (o := .cells #[.int .i32 a0_0, .int .i64 a0_1, .int .i64 a0_2, .int .i64 a0_3] 53 (0, 0)) q5_5 hb); have n1_ := A5_ (below_step q5_4 hb); have n2_ := A5_ (hbox); have n3_ := A5_ ((by rw [hg]; exact (below_size q5_4) : w.heap.size ≤ gb207)); have n4_ := A5_ ((by rw [hg]; exact (below_size q5_4) : w.heap.size ≤ gb207)); have n5_ := A5_ ((by rw [hg]; exact Nat.ne_of_lt (blk_lt (g := gb206) (o := .cells #[.int .i32 a0_0, .int .i64 a0_1, .int .i64 a0_2, .int .i64 a0_3] 53 (0, 0)) q5_5) : gb206 ≠ gb207)); have n6_ := A5_ ((by rw [hg]; exact Nat.ne_of_gt (blk_lt (g := gb206) (o := .cells #[.int .i32 a0_0, .int .i64 a0_1, .int .i64 a0_2, .int .i64 a0_3] 53 (0, 0)) q5_5) : gb207 ≠ gb206)); clear BK206 HB; have BK206 := n0_; have HB := n1_; have BK207 := n2_; have GW207 := n3_; have GE207 := n4_; have NB206_207 := n5_; have NB207_206 := n6_; clear n0_ n1_ n2_ n3_ n4_ n5_ n6_; clear hb hbox hg; have hnb44 := NB207_206.out; have hnc44 := NB206_207.out; have hcz45_0 : w43.cell? ⟨gb207, 0, none⟩ = some (.int .i64 0) := bc5_ BK207 0; have hcz45_1 : w43.cell? ⟨gb207, 1, none⟩ = some (.int .i64 0) := bc5_ BK207 1; have hcz45_2 : w43.cell? ⟨gb207, 2, none⟩ = some (.int .i64 0) := bc5_ BK207 2; have hfz45_0 := blk_frozen BK207.out 0; have hfz45_1 := blk_frozen BK207.out 1; have hfz45_2 := blk_frozen BK207.out 2; have hcz46_0 : w43.cell? ⟨gb206, 0, none⟩ = some (.int .i32 a0_0) := bc5_ BK206 0; have hcz46_1 : w43.cell? ⟨gb206, 1, none⟩ = some (.int .i64 a0_1) := bc5_ BK206 1; have hcz46_2 : w43.cell? ⟨gb206, 2, none⟩ = some (.int .i64 a0_2) := bc5_ BK206 2; have hcz46_3 : w43.cell? ⟨gb206, 3, none⟩ = some (.int .i64 a0_3) := bc5_ BK206 3; have hfz46_0 := blk_frozen BK206.out 0; have hfz46_1 := blk_frozen BK206.out 1; have hfz46_2 := blk_frozen BK206.out 2; have hfz46_3 := blk_frozen BK206.out 3) | (go_at_call 21; (with_reducible refine (batonref08_Sign.calls (wrap64 (a0_0)) t208 _ A40.out).mono ?_); rintro e w' ⟨rfl, ⟨nd, rfl⟩⟩))
         go_ret
         exact ⟨by first | rfl | (simp [errW_none, errW_some] <;> rfl) | (simp [*, errW_none, errW_some] <;> rfl), by repeat (first | (with_reducible first | exact HB.out | apply below_alloc | apply pw_below_drewN | apply below_drew1 | refine below_set ?_ GE206.out | refine below_set ?_ GE207.out) | exact HB.out)⟩
        ·rw [if_neg c39] at H
         have c39b0 : decide ((wrap64 (a0_0)) ≤ 126) = false := decide_eq_false c39
         clear c39
         by_cases c47 : (wrap64 (a0_0)) ≥ 160
         ·rw [if_pos c47] at H
          have c47b0 : decide (160 ≤ (wrap64 (a0_0))) = true := decide_eq_true c47
          clear c47
          replace H := Option.bind_eq_some_iff.mp H
          obtain ⟨t209, A480, H⟩ := H
          replace H : (some t209) = some r := H
          have A48 := A5_ A480
          clear A480
          obtain rfl := Option.some.inj H
          go_enter Try.func36, Try.ntmps36
          go_wp2_with (first | ((with_reducible refine gate_dst (N := 1) rfl ?_); refine box_event ?hg (N := 1) ?hd (cs := #[.int .i32 a0_0, .int .i64 a0_1, .int .i64 a0_2, .int .i64 a0_3]) (t := 53) ?hr ?_; (case hd => rfl); (case hg => rfl); (case hr => first | (go_simp; done) | (go_simp; rfl)); intro gb206 hg w49 hbox hb; have n0_ := A5_ (below_step q5_3 hb); have n1_ := A5_ (hbox); have n2_ := A5_ ((by rw [hg]; exact (below_size q5_3) : w.heap.size ≤ gb206)); have n3_ := A5_ ((by rw [hg]; exact (below_size q5_3) : w.heap.size ≤ gb206)); clear HB; have HB := n0_; have BK206 := n1_; have GW206 := n2_; have GE206 := n3_; clear n0_ n1_ n2_ n3_; clear hb hbox hg; have hcz50_0 : w49.cell? ⟨gb206, 0, none⟩ = some (.int .i32 a0_0) := bc5_ BK206 0; have hcz50_1 : w49.cell? ⟨gb206, 1, none⟩ = some (.int .i64 a0_1) := bc5_ BK206 1; have hcz50_2 : w49.cell? ⟨gb206, 2, none⟩ = some (.int .i64 a0_2) := bc5_ BK206 2; have hcz50_3 : w49.cell? ⟨gb206, 3, none⟩ = some (.int .i64 a0_3) := bc5_ BK206 3; have hfz50_0 := blk_frozen BK206.out 0; have hfz50_1 := blk_frozen BK206.out 1; have hfz50_2 := blk_frozen BK206.out 2; have hfz50_3 := blk_frozen BK206.out 3) | ((with_reducible refine gate_dst (N := 3) rfl ?_); refine box_event ?hg (N := 3) ?hd (cs := #[.int .i64 0, .int .i64 0, .int .i64 0]) (t := 51) ?hr ?_; (case hd => rfl); (case hg => rfl); (case hr => first | (go_simp; done) | (go_simp; rfl)); intro gb207 hg w51 hbox hb; have n0_ := A5_ (blk_below (g := gb206) (o := .cells #[.int .i32 a0_0, .int .i64 a0_1, .int .i64 a0_2, .int .i64 a0_3] 53 (0, 0)) q5_5 hb); have n1_ := A5_ (below_step q5_4 hb); have n2_ := A5_ (hbox); have n3_ := A5_ ((by rw [hg]; exact (below_size q5_4) : w.heap.size ≤ gb207)); have n4_ := A5_ ((by rw [hg]; exact (below_size q5_4) : w.heap.size ≤ gb207)); have n5_ := A5_ ((by rw [hg]; exact Nat.ne_of_lt (blk_lt (g := gb206) (o := .cells #[.int .i32 a0_0, .int .i64 a0_1, .int .i64 a0_2, .int .i64 a0_3] 53 (0, 0)) q5_5) : gb206 ≠ gb207)); have n6_ := A5_ ((by rw [hg]; exact Nat.ne_of_gt (blk_lt (g := gb206) (o := .cells #[.int .i32 a0_0, .int .i64 a0_1, .int .i64 a0_2, .int .i64 a0_3] 53 (0, 0)) q5_5) : gb207 ≠ gb206)); clear BK206 HB; have BK206 := n0_; have HB := n1_; have BK207 := n2_; have GW207 := n3_; have GE207 := n4_; have NB206_207 := n5_; have NB207_206 := n6_; clear n0_ n1_ n2_ n3_ n4_ n5_ n6_; clear hb hbox hg; have hnb52 := NB207_206.out; have hnc52 := NB206_207.out; have hcz53_0 : w51.cell? ⟨gb207, 0, none⟩ = some (.int .i64 0) := bc5_ BK207 0; have hcz53_1 : w51.cell? ⟨gb207, 1, none⟩ = some (.int .i64 0) := bc5_ BK207 1; have hcz53_2 : w51.cell? ⟨gb207, 2, none⟩ = some (.int .i64 0) := bc5_ BK207 2; have hfz53_0 := blk_frozen BK207.out 0; have hfz53_1 := blk_frozen BK207.out 1; have hfz53_2 := blk_frozen BK207.out 2; have hcz54_0 : w51.cell? ⟨gb206, 0, none⟩ = some (.int .i32 a0_0) := bc5_ BK206 0; have hcz54_1 : w51.cell? ⟨gb206, 1, none⟩ = some (.int .i64 a0_1) := bc5_ BK206 1; have hcz54_2 : w51.cell? ⟨gb206, 2, none⟩ = some (.int .i64 a0_2) := bc5_ BK206 2; have hcz54_3 : w51.cell? ⟨gb206, 3, none⟩ = some (.int .i64 a0_3) := bc5_ BK206 3; have hfz54_0 := blk_frozen BK206.out 0; have hfz54_1 := blk_frozen BK206.out 1; have hfz54_2 := blk_frozen BK206.out 2; have hfz54_3 := blk_frozen BK206.out 3) | (go_at_call 21; (with_reducible refine (batonref08_Sign.calls (wrap64 (a0_0)) t209 _ A48.out).mono ?_); rintro e w' ⟨rfl, ⟨nd, rfl⟩⟩))
          go_ret
          exact ⟨by first | rfl | (simp [errW_none, errW_some] <;> rfl) | (simp [*, errW_none, errW_some] <;> rfl), by repeat (first | (with_reducible first | exact HB.out | apply below_alloc | apply pw_below_drewN | apply below_drew1 | refine below_set ?_ GE206.out | refine below_set ?_ GE207.out) | exact HB.out)⟩
         ·rw [if_neg c47] at H
          have c47b0 : decide (160 ≤ (wrap64 (a0_0))) = false := decide_eq_false c47
          clear c47
          obtain rfl := Option.some.inj H
          go_enter Try.func36, Try.ntmps36
          go_wp2_with (first | ((with_reducible refine gate_dst (N := 1) rfl ?_); refine box_event ?hg (N := 1) ?hd (cs := #[.int .i32 a0_0, .int .i64 a0_1, .int .i64 a0_2, .int .i64 a0_3]) (t := 53) ?hr ?_; (case hd => rfl); (case hg => rfl); (case hr => first | (go_simp; done) | (go_simp; rfl)); intro gb206 hg w55 hbox hb; have n0_ := A5_ (below_step q5_3 hb); have n1_ := A5_ (hbox); have n2_ := A5_ ((by rw [hg]; exact (below_size q5_3) : w.heap.size ≤ gb206)); have n3_ := A5_ ((by rw [hg]; exact (below_size q5_3) : w.heap.size ≤ gb206)); clear HB; have HB := n0_; have BK206 := n1_; have GW206 := n2_; have GE206 := n3_; clear n0_ n1_ n2_ n3_; clear hb hbox hg; have hcz56_0 : w55.cell? ⟨gb206, 0, none⟩ = some (.int .i32 a0_0) := bc5_ BK206 0; have hcz56_1 : w55.cell? ⟨gb206, 1, none⟩ = some (.int .i64 a0_1) := bc5_ BK206 1; have hcz56_2 : w55.cell? ⟨gb206, 2, none⟩ = some (.int .i64 a0_2) := bc5_ BK206 2; have hcz56_3 : w55.cell? ⟨gb206, 3, none⟩ = some (.int .i64 a0_3) := bc5_ BK206 3; have hfz56_0 := blk_frozen BK206.out 0; have hfz56_1 := blk_frozen BK206.out 1; have hfz56_2 := blk_frozen BK206.out 2; have hfz56_3 := blk_frozen BK206.out 3) | ((with_reducible refine gate_dst (N := 3) rfl ?_); refine box_event ?hg (N := 3) ?hd (cs := #[.int .i64 0, .int .i64 0, .int .i64 0]) (t := 51) ?hr ?_; (case hd => rfl); (case hg => rfl); (case hr => first | (go_simp; done) | (go_simp; rfl)); intro gb207 hg w57 hbox hb; have n0_ := A5_ (blk_below (g := gb206) (o := .cells #[.int .i32 a0_0, .int .i64 a0_1, .int .i64 a0_2, .int .i64 a0_3] 53 (0, 0)) q5_5 hb); have n1_ := A5_ (below_step q5_4 hb); have n2_ := A5_ (hbox); have n3_ := A5_ ((by rw [hg]; exact (below_size q5_4) : w.heap.size ≤ gb207)); have n4_ := A5_ ((by rw [hg]; exact (below_size q5_4) : w.heap.size ≤ gb207)); have n5_ := A5_ ((by rw [hg]; exact Nat.ne_of_lt (blk_lt (g := gb206) (o := .cells #[.int .i32 a0_0, .int .i64 a0_1, .int .i64 a0_2, .int .i64 a0_3] 53 (0, 0)) q5_5) : gb206 ≠ gb207)); have n6_ := A5_ ((by rw [hg]; exact Nat.ne_of_gt (blk_lt (g := gb206) (o := .cells #[.int .i32 a0_0, .int .i64 a0_1, .int .i64 a0_2, .int .i64 a0_3] 53 (0, 0)) q5_5) : gb207 ≠ gb206)); clear BK206 HB; have BK206 := n0_; have HB := n1_; have BK207 := n2_; have GW207 := n3_; have GE207 := n4_; have NB206_207 := n5_; have NB207_206 := n6_; clear n0_ n1_ n2_ n3_ n4_ n5_ n6_; clear hb hbox hg; have hnb58 := NB207_206.out; have hnc58 := NB206_207.out; have hcz59_0 : w57.cell? ⟨gb207, 0, none⟩ = some (.int .i64 0) := bc5_ BK207 0; have hcz59_1 : w57.cell? ⟨gb207, 1, none⟩ = some (.int .i64 0) := bc5_ BK207 1; have hcz59_2 : w57.cell? ⟨gb207, 2, none⟩ = some (.int .i64 0) := bc5_ BK207 2; have hfz59_0 := blk_frozen BK207.out 0; have hfz59_1 := blk_frozen BK207.out 1; have hfz59_2 := blk_frozen BK207.out 2; have hcz60_0 : w57.cell? ⟨gb206, 0, none⟩ = some (.int .i32 a0_0) := bc5_ BK206 0; have hcz60_1 : w57.cell? ⟨gb206, 1, none⟩ = some (.int .i64 a0_1) := bc5_ BK206 1; have hcz60_2 : w57.cell? ⟨gb206, 2, none⟩ = some (.int .i64 a0_2) := bc5_ BK206 2; have hcz60_3 : w57.cell? ⟨gb206, 3, none⟩ = some (.int .i64 a0_3) := bc5_ BK206 3; have hfz60_0 := blk_frozen BK206.out 0; have hfz60_1 := blk_frozen BK206.out 1; have hfz60_2 := blk_frozen BK206.out 2; have hfz60_3 := blk_frozen BK206.out 3))
          go_ret
          exact ⟨by first | rfl | (simp [errW_none, errW_some] <;> rfl) | (simp [*, errW_none, errW_some] <;> rfl), by repeat (first | (with_reducible first | exact HB.out | apply below_alloc | apply pw_below_drewN | apply below_drew1 | refine below_set ?_ GE206.out | refine below_set ?_ GE207.out) | exact HB.out)⟩
       ·rw [if_neg c38] at H
        have c38b0 : decide (32 ≤ (wrap64 (a0_0))) = false := decide_eq_false c38
        clear c38
        by_cases c61 : (wrap64 (a0_0)) ≥ 160
        ·rw [if_pos c61] at H
         have c61b0 : decide (160 ≤ (wrap64 (a0_0))) = true := decide_eq_true c61
         clear c61
         replace H := Option.bind_eq_some_iff.mp H
         obtain ⟨t210, A620, H⟩ := H
         replace H : (some t210) = some r := H
         have A62 := A5_ A620
         clear A620
         obtain rfl := Option.some.inj H
         go_enter Try.func36, Try.ntmps36
         go_wp2_with (first | ((with_reducible refine gate_dst (N := 1) rfl ?_); refine box_event ?hg (N := 1) ?hd (cs := #[.int .i32 a0_0, .int .i64 a0_1, .int .i64 a0_2, .int .i64 a0_3]) (t := 53) ?hr ?_; (case hd => rfl); (case hg => rfl); (case hr => first | (go_simp; done) | (go_simp; rfl)); intro gb206 hg w63 hbox hb; have n0_ := A5_ (below_step q5_3 hb); have n1_ := A5_ (hbox); have n2_ := A5_ ((by rw [hg]; exact (below_size q5_3) : w.heap.size ≤ gb206)); have n3_ := A5_ ((by rw [hg]; exact (below_size q5_3) : w.heap.size ≤ gb206)); clear HB; have HB := n0_; have BK206 := n1_; have GW206 := n2_; have GE206 := n3_; clear n0_ n1_ n2_ n3_; clear hb hbox hg; have hcz64_0 : w63.cell? ⟨gb206, 0, none⟩ = some (.int .i32 a0_0) := bc5_ BK206 0; have hcz64_1 : w63.cell? ⟨gb206, 1, none⟩ = some (.int .i64 a0_1) := bc5_ BK206 1; have hcz64_2 : w63.cell? ⟨gb206, 2, none⟩ = some (.int .i64 a0_2) := bc5_ BK206 2; have hcz64_3 : w63.cell? ⟨gb206, 3, none⟩ = some (.int .i64 a0_3) := bc5_ BK206 3; have hfz64_0 := blk_frozen BK206.out 0; have hfz64_1 := blk_frozen BK206.out 1; have hfz64_2 := blk_frozen BK206.out 2; have hfz64_3 := blk_frozen BK206.out 3) | ((with_reducible refine gate_dst (N := 3) rfl ?_); refine box_event ?hg (N := 3) ?hd (cs := #[.int .i64 0, .int .i64 0, .int .i64 0]) (t := 51) ?hr ?_; (case hd => rfl); (case hg => rfl); (case hr => first | (go_simp; done) | (go_simp; rfl)); intro gb207 hg w65 hbox hb; have n0_ := A5_ (blk_below (g := gb206) (o := .cells #[.int .i32 a0_0, .int .i64 a0_1, .int .i64 a0_2, .int .i64 a0_3] 53 (0, 0)) q5_5 hb); have n1_ := A5_ (below_step q5_4 hb); have n2_ := A5_ (hbox); have n3_ := A5_ ((by rw [hg]; exact (below_size q5_4) : w.heap.size ≤ gb207)); have n4_ := A5_ ((by rw [hg]; exact (below_size q5_4) : w.heap.size ≤ gb207)); have n5_ := A5_ ((by rw [hg]; exact Nat.ne_of_lt (blk_lt (g := gb206) (o := .cells #[.int .i32 a0_0, .int .i64 a0_1, .int .i64 a0_2, .int .i64 a0_3] 53 (0, 0)) q5_5) : gb206 ≠ gb207)); have n6_ := A5_ ((by rw [hg]; exact Nat.ne_of_gt (blk_lt (g := gb206) (o := .cells #[.int .i32 a0_0, .int .i64 a0_1, .int .i64 a0_2, .int .i64 a0_3] 53 (0, 0)) q5_5) : gb207 ≠ gb206)); clear BK206 HB; have BK206 := n0_; have HB := n1_; have BK207 := n2_; have GW207 := n3_; have GE207 := n4_; have NB206_207 := n5_; have NB207_206 := n6_; clear n0_ n1_ n2_ n3_ n4_ n5_ n6_; clear hb hbox hg; have hnb66 := NB207_206.out; have hnc66 := NB206_207.out; have hcz67_0 : w65.cell? ⟨gb207, 0, none⟩ = some (.int .i64 0) := bc5_ BK207 0; have hcz67_1 : w65.cell? ⟨gb207, 1, none⟩ = some (.int .i64 0) := bc5_ BK207 1; have hcz67_2 : w65.cell? ⟨gb207, 2, none⟩ = some (.int .i64 0) := bc5_ BK207 2; have hfz67_0 := blk_frozen BK207.out 0; have hfz67_1 := blk_frozen BK207.out 1; have hfz67_2 := blk_frozen BK207.out 2; have hcz68_0 : w65.cell? ⟨gb206, 0, none⟩ = some (.int .i32 a0_0) := bc5_ BK206 0; have hcz68_1 : w65.cell? ⟨gb206, 1, none⟩ = some (.int .i64 a0_1) := bc5_ BK206 1; have hcz68_2 : w65.cell? ⟨gb206, 2, none⟩ = some (.int .i64 a0_2) := bc5_ BK206 2; have hcz68_3 : w65.cell? ⟨gb206, 3, none⟩ = some (.int .i64 a0_3) := bc5_ BK206 3; have hfz68_0 := blk_frozen BK206.out 0; have hfz68_1 := blk_frozen BK206.out 1; have hfz68_2 := blk_frozen BK206.out 2; have hfz68_3 := blk_frozen BK206.out 3) | (go_at_call 21; (with_reducible refine (batonref08_Sign.calls (wrap64 (a0_0)) t210 _ A62.out).mono ?_); rintro e w' ⟨rfl, ⟨nd, rfl⟩⟩))
         go_ret
         exact ⟨by first | rfl | (simp [errW_none, errW_some] <;> rfl) | (simp [*, errW_none, errW_some] <;> rfl), by repeat (first | (with_reducible first | exact HB.out | apply below_alloc | apply pw_below_drewN | apply below_drew1 | refine below_set ?_ GE206.out | refine below_set ?_ GE207.out) | exact HB.out)⟩
        ·rw [if_neg c61] at H
         have c61b0 : decide (160 ≤ (wrap64 (a0_0))) = false := decide_eq_false c61
         clear c61
         obtain rfl := Option.some.inj H
         go_enter Try.func36, Try.ntmps36
         go_wp2_with (first | ((with_reducible refine gate_dst (N := 1) rfl ?_); refine box_event ?hg (N := 1) ?hd (cs := #[.int .i32 a0_0, .int .i64 a0_1, .int .i64 a0_2, .int .i64 a0_3]) (t := 53) ?hr ?_; (case hd => rfl); (case hg => rfl); (case hr => first | (go_simp; done) | (go_simp; rfl)); intro gb206 hg w69 hbox hb; have n0_ := A5_ (below_step q5_3 hb); have n1_ := A5_ (hbox); have n2_ := A5_ ((by rw [hg]; exact (below_size q5_3) : w.heap.size ≤ gb206)); have n3_ := A5_ ((by rw [hg]; exact (below_size q5_3) : w.heap.size ≤ gb206)); clear HB; have HB := n0_; have BK206 := n1_; have GW206 := n2_; have GE206 := n3_; clear n0_ n1_ n2_ n3_; clear hb hbox hg; have hcz70_0 : w69.cell? ⟨gb206, 0, none⟩ = some (.int .i32 a0_0) := bc5_ BK206 0; have hcz70_1 : w69.cell? ⟨gb206, 1, none⟩ = some (.int .i64 a0_1) := bc5_ BK206 1; have hcz70_2 : w69.cell? ⟨gb206, 2, none⟩ = some (.int .i64 a0_2) := bc5_ BK206 2; have hcz70_3 : w69.cell? ⟨gb206, 3, none⟩ = some (.int .i64 a0_3) := bc5_ BK206 3; have hfz70_0 := blk_frozen BK206.out 0; have hfz70_1 := blk_frozen BK206.out 1; have hfz70_2 := blk_frozen BK206.out 2; have hfz70_3 := blk_frozen BK206.out 3) | ((with_reducible refine gate_dst (N := 3) rfl ?_); refine box_event ?hg (N := 3) ?hd (cs := #[.int .i64 0, .int .i64 0, .int .i64 0]) (t := 51) ?hr ?_; (case hd => rfl); (case hg => rfl); (case hr => first | (go_simp; done) | (go_simp; rfl)); intro gb207 hg w71 hbox hb; have n0_ := A5_ (blk_below (g := gb206) (o := .cells #[.int .i32 a0_0, .int .i64 a0_1, .int .i64 a0_2, .int .i64 a0_3] 53 (0, 0)) q5_5 hb); have n1_ := A5_ (below_step q5_4 hb); have n2_ := A5_ (hbox); have n3_ := A5_ ((by rw [hg]; exact (below_size q5_4) : w.heap.size ≤ gb207)); have n4_ := A5_ ((by rw [hg]; exact (below_size q5_4) : w.heap.size ≤ gb207)); have n5_ := A5_ ((by rw [hg]; exact Nat.ne_of_lt (blk_lt (g := gb206) (o := .cells #[.int .i32 a0_0, .int .i64 a0_1, .int .i64 a0_2, .int .i64 a0_3] 53 (0, 0)) q5_5) : gb206 ≠ gb207)); have n6_ := A5_ ((by rw [hg]; exact Nat.ne_of_gt (blk_lt (g := gb206) (o := .cells #[.int .i32 a0_0, .int .i64 a0_1, .int .i64 a0_2, .int .i64 a0_3] 53 (0, 0)) q5_5) : gb207 ≠ gb206)); clear BK206 HB; have BK206 := n0_; have HB := n1_; have BK207 := n2_; have GW207 := n3_; have GE207 := n4_; have NB206_207 := n5_; have NB207_206 := n6_; clear n0_ n1_ n2_ n3_ n4_ n5_ n6_; clear hb hbox hg; have hnb72 := NB207_206.out; have hnc72 := NB206_207.out; have hcz73_0 : w71.cell? ⟨gb207, 0, none⟩ = some (.int .i64 0) := bc5_ BK207 0; have hcz73_1 : w71.cell? ⟨gb207, 1, none⟩ = some (.int .i64 0) := bc5_ BK207 1; have hcz73_2 : w71.cell? ⟨gb207, 2, none⟩ = some (.int .i64 0) := bc5_ BK207 2; have hfz73_0 := blk_frozen BK207.out 0; have hfz73_1 := blk_frozen BK207.out 1; have hfz73_2 := blk_frozen BK207.out 2; have hcz74_0 : w71.cell? ⟨gb206, 0, none⟩ = some (.int .i32 a0_0) := bc5_ BK206 0; have hcz74_1 : w71.cell? ⟨gb206, 1, none⟩ = some (.int .i64 a0_1) := bc5_ BK206 1; have hcz74_2 : w71.cell? ⟨gb206, 2, none⟩ = some (.int .i64 a0_2) := bc5_ BK206 2; have hcz74_3 : w71.cell? ⟨gb206, 3, none⟩ = some (.int .i64 a0_3) := bc5_ BK206 3; have hfz74_0 := blk_frozen BK206.out 0; have hfz74_1 := blk_frozen BK206.out 1; have hfz74_2 := blk_frozen BK206.out 2; have hfz74_3 := blk_frozen BK206.out 3))
         go_ret
         exact ⟨by first | rfl | (simp [errW_none, errW_some] <;> rfl) | (simp [*, errW_none, errW_some] <;> rfl), by repeat (first | (with_reducible first | exact HB.out | apply below_alloc | apply pw_below_drewN | apply below_drew1 | refine below_set ?_ GE206.out | refine below_set ?_ GE207.out) | exact HB.out)⟩

/-! ### batonref10_Size: function 58 -/
def batonref10_Size.f (a0 : Int) (a1 : Int) : Option (Bool) := if a0 ≥ 1 then (if a0 ≤ 60 then (if a1 ≥ 1 then (some (decide (a1 ≤ 132))) else (some false)) else (some false)) else (some false)
set_option maxHeartbeats 8000000 in
set_option maxRecDepth 100000 in
theorem batonref10_Size.calls (a0 : Int) (a1 : Int) (r : Bool) (w : World) (h : batonref10_Size.f a0 a1 = some r) :
  Calls Try.prog 58 #[.int .i64 a0, .int .i64 a1] w fun e w' => e = .returned (.bool r) ∧ Drawn0 w w' := by
 have H : (if a0 ≥ 1 then (if a0 ≤ 60 then (if a1 ≥ 1 then (some (decide (a1 ≤ 132))) else (some false)) else (some false)) else (some false)) = some r := h
 clear h
 by_cases c3 : a0 ≥ 1
 ·rw [if_pos c3] at H
  have c3b0 : decide (1 ≤ a0) = true := decide_eq_true c3
  clear c3
  by_cases c4 : a0 ≤ 60
  ·rw [if_pos c4] at H
   have c4b0 : decide (a0 ≤ 60) = true := decide_eq_true c4
   clear c4
   by_cases c5 : a1 ≥ 1
   ·rw [if_pos c5] at H
    have c5b0 : decide (1 ≤ a1) = true := decide_eq_true c5
    clear c5
    obtain rfl := Option.some.inj H
    go_enter Try.func58, Try.ntmps58
    go_wp2
    go_ret
    exact ⟨by first | rfl | (simp; done) | (simp [*]; done), by repeat (first | exact Drawn0.refl _ | apply Drawn0.step)⟩
   ·rw [if_neg c5] at H
    have c5b0 : decide (1 ≤ a1) = false := decide_eq_false c5
    clear c5
    obtain rfl := Option.some.inj H
    go_enter Try.func58, Try.ntmps58
    go_wp2
    go_ret
    exact ⟨by first | rfl | (simp; done) | (simp [*]; done), by repeat (first | exact Drawn0.refl _ | apply Drawn0.step)⟩
  ·rw [if_neg c4] at H
   have c4b0 : decide (a0 ≤ 60) = false := decide_eq_false c4
   clear c4
   obtain rfl := Option.some.inj H
   go_enter Try.func58, Try.ntmps58
   go_wp2
   go_ret
   exact ⟨by first | rfl | (simp; done) | (simp [*]; done), by repeat (first | exact Drawn0.refl _ | apply Drawn0.step)⟩
 ·rw [if_neg c3] at H
  have c3b0 : decide (1 ≤ a0) = false := decide_eq_false c3
  clear c3
  obtain rfl := Option.some.inj H
  go_enter Try.func58, Try.ntmps58
  go_wp2
  go_ret
  exact ⟨by first | rfl | (simp; done) | (simp [*]; done), by repeat (first | exact Drawn0.refl _ | apply Drawn0.step)⟩

end Go.Proofs.Ytkckojgjkmcokaa.PF10
