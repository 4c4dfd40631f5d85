/- By a program of this session (wip/tool/pp.py): plain Lean functions of the Go functions that this family of laws uses, the walks that the Go code comes to their answers, and the row of the law. No condition beside those that the row itself gives. -/
import Derived.Test.YtkckojgjkmcokaaPF10Ax0
import Derived.Test.YtkckojgjkmcokaaPF10Ax2
import Derived.Test.YtkckojgjkmcokaaPF10Ax4
namespace Go.Proofs.Ytkckojgjkmcokaa.PF10A
open Go.RowKit Go.Proofs.YtkckojgjkmcokaaW.Hand Go.Proofs.YtkckojgjkmcokaaW.PrintWords Go.Proofs.YtkckojgjkmcokaaW.PrintLast Go.Proofs.YtkckojgjkmcokaaW.PrintMore
attribute [local go_sem] max2_int min2_int max_two min_two max_three min_three max_four min_four   -- for this text's walks alone
open List (setIfInBounds_toArray set_cons_zero set_cons_succ)
set_option linter.unusedVariables false
set_option linter.unusedSimpArgs false

/-! ### (*Board).line, grid_Board_Up: functions 77, 73 (by hand) -/
/-- copy of whole elements, into a row that has room for them. -/
theorem run_copy_sz {P : Program} (w : World) (dT sT ty elem : TypeId) (b o dLen dCap : Nat) (a : Addr) (sLen sCap size m : Nat) (cs : List Value) (hu : P.underlying dT = some (.slice elem)) (hs : (P.info? elem).map (·.size) = some size) (hm : Nat.min sLen dLen = m) (hn : cs.length = m * size)
  (hsrc : ∀ j v, cs[j]? = some v → w.cell? (a.add j) = some v) (hsp : ∀ j, j < cs.length → (w.cell? ⟨b, o + j, none⟩).isSome = true) (hfz : ∀ j, j < cs.length → w.frozen? ⟨b, o + j, none⟩ = false) (h1 : ∀ v ∈ cs, v.oneCell' = true) :
  (Builtin.copy_ #[dT, sT] ty #[.slice (some ⟨b, o, none⟩) dLen dCap, .slice (some a) sLen sCap]).run P w = .ok (goInt m) (w.setCells b o cs) := by
 have hl := run_loadCells_list (P := P) w a cs hsrc
 have hst := run_storeCells_cells (P := P) b o cs 0 w (by simpa using hsp) (by simpa using hfz) h1
 simp only [Nat.add_zero] at hst
 cases hq : P.info? elem with
 | none => simp [hq] at hs
 | some i =>
  have hi : i.size = size := by simpa [hq] using hs
  rw [hn] at hl
  simp [Builtin.copy_, run_underlying hu, Builtin.lenOf, Builtin.firstCells, sizeOf, typeInfo, hq, hi, hm, hl, hst]
/-- One operation 'copy' whose run is known, in a region that draws. -/
theorem step_copy_known {P : Program} {ops : Array Oper} {o : Oper} {a : Act} {w : World} {K : Act → World → Prop} {Q : Exit → Act → World → Prop} {E : Prop}
  (hg : o.guard = none) (d x : Operand) (dT sT : TypeId) (hop : o.op = Op.call { callee := Callee.builtin Builtin.copy, args := #[d, x], argTypes := #[dT, sT] })
  (v u : Value) (hd : a.eval d = v) (hx : a.eval x = u) {v' : Value} {w' : World} (hr : (Builtin.copy_ #[dT, sT] o.type #[v, u]).run P w = .ok v' w') (hK : K (a.put o.dst v') w') :
  if Region.wanted o (yielded ops a.tmps) = true then Oper.wp P o a w K Q else E := by
 rw [if_pos (by simp [Region.wanted, hg])]
 simp [Oper.wp, execOp, hop, resolve, invoke, builtin, hd, hx, hr, Result.andThen]
 exact hK
/-- Cells that say what a row's elements are, as a row of one's own. -/
theorem R_ofcells {α : Type} {d : Kd α} {e base g cap : Nat} {w W : World} {ok ok1 : Nat → Prop} {b1 : Nat} {xs : List α} {inner : List Value} (hM : ∀ (w w' : World) (b b' : Nat) (ok ok' : Nat → Prop) (x : α) (c : List Value), d.M w b ok x c → d.M w' b' ok' x c)
  (hr : Reps (d.M w b1 ok1) d.sz xs inner) {cur : Array Value} (hb : base ≤ g) (hh : W.heap[g]? = some (.cells cur e (0, 0))) (hnc : xs.length ≤ cap) (hcm : cap ≤ maxLen) (hcs : cur.size = cap * d.sz) (ht : cur.toList.take (xs.length * d.sz) = inner) (hok : ok g) :
  d.R e W base ok (.slice (some ⟨g, 0, none⟩) xs.length cap) xs := by
 refine ⟨fun k hk => ?_, inner, ⟨hr.1, .inr ⟨g, cap, cur, rfl, hb, hh, hnc, hcm, hcs, ht⟩⟩, hr.imp_ (fun x c h => hM _ _ _ _ _ _ x c h)⟩
 have : g = k := by simpa [Value.ownBlock] using hk
 subst this
 exact hok
theorem cells_over {z n d m : Nat} {cur cs : List Value} (hl : n * z ≤ cur.length) (hd : d + m ≤ n) (hc : cs.length = m * z) :
  (cur.take (d * z) ++ cs ++ cur.drop (d * z + cs.length)).take (n * z) = (cur.take (n * z)).take (d * z) ++ cs ++ (cur.take (n * z)).drop ((d + m) * z) := by
 have e1 : (d + m) * z = d * z + m * z := Nat.add_mul _ _ _
 have e2 : (d + m) * z ≤ n * z := Nat.mul_le_mul_right _ hd
 have h1 : (cur.take (d * z)).length = d * z := by rw [List.length_take]; omega
 rw [List.take_append, List.take_of_length_le (l := cur.take (d * z) ++ cs) (by rw [List.length_append, h1, hc]; omega), List.take_take, Nat.min_eq_left (by omega), List.drop_take, List.length_append, h1, hc, e1]
theorem copy_own {P : Program} {α : Type} {k : Kd α} (flat : ∀ (w w' : World) (b b' : Nat) (ok ok' : Nat → Prop) (x : α) (c : List Value), k.M w b ok x c → k.M w' b' ok' x c) (hKM : ∀ (w : World) (b : Nat) (ok : Nat → Prop) (x : α) (c : List Value), k.K w x c → k.M w b ok x c)
  {e base : Nat} {ok : Nat → Prop} {w : World} {A : Option Addr} {n c : Nat} {l : List α} (hR : k.R e w base ok (.slice A n c) l)
  {B : Option Addr} {m : Nat} {xs : List α} (hC : k.C w B m xs) (hz : 0 < k.sz) (dT sT : TypeId) (hu : P.underlying dT = some (.slice e)) {i0 : TypeInfo} (hi : P.info? e = some i0) (hsz : i0.size = k.sz) (d dl dc sl sc : Nat) (hm : Nat.min sl dl = m) (hm0 : 0 < m) (hd : d + m ≤ l.length) (D : Option Addr) (hD : D = if c = d then A else A.map (·.add (d * k.sz))) :
  ∃ w2, (∀ ty, (Builtin.copy_ #[dT, sT] ty #[.slice D dl dc, .slice B sl sc]).run P w = .ok (goInt m) w2) ∧ k.R e w2 base ok (.slice A n c) (l.take d ++ xs ++ l.drop (d + m)) ∧ (w2.os = w.os ∧ w2.tape = w.tape ∧ w2.output = w.output ∧ w2.heap.size = w.heap.size) ∧ ∀ j, (¬ ok j ∨ j < base) → w2.heap[j]? = w.heap[j]? := by
 obtain ⟨hok, inner, hown, hr⟩ := hR
 rcases hown.2 with ⟨_, hn⟩ | ⟨g, cap, cur, hv, hb, hh, hnn, hcm, hcs, ht⟩
 ·omega
 injection hv with ha hl hcc
 subst ha; subst hcc; subst hl
 have hcd : ¬ c = d := by omega
 rw [if_neg hcd, Option.map_some, add_plain] at hD
 subst hD
 obtain ⟨ad, rfl, _⟩ := hC.2.2 hm0
 have hxl := hC.1
 obtain ⟨cs, hcr, hcc⟩ := ReadsRow.inner_ hC
 have hcl : cs.length = m * k.sz := by rw [hcr.1, hxl]
 have hcurl : cur.toList.length = cur.size := Array.length_toList
 have hle : l.length * k.sz ≤ c * k.sz := Nat.mul_le_mul_right _ hnn
 have hdm : d * k.sz + m * k.sz ≤ l.length * k.sz := by rw [← Nat.add_mul]; exact Nat.mul_le_mul_right _ hd
 have h1 : ∀ v ∈ cs, v.oneCell' = true := Kd.reps_one hcr hz (fun _ _ hp => k.K_one hp)
 have hrun := fun ty => run_copy_sz (P := P) w dT sT ty e g (d * k.sz) dl dc ad sl sc k.sz m cs hu (by rw [hi]; simp [hsz]) hm hcl (fun j v hj => hcc j v hj)
  (fun j hj => by rw [cell_of_row w g _ cur e (0, 0) hh, Array.getElem?_eq_getElem (by omega)]; rfl) (fun j hj => blk_frozen hh _) h1
 obtain ⟨cur', e1, e2, e3⟩ := setCells_row cs (d * k.sz) w cur hh (by omega)
 have hfar := fun j hj => setCells_far (g := g) cs (d * k.sz) (w := w) j hj
 have hsame := setCells_same g cs (d * k.sz) w
 have hrall : Reps (k.M w base (fun _ => True)) k.sz (l.take d ++ xs ++ l.drop (d + m)) (inner.take (d * k.sz) ++ cs ++ inner.drop ((d + m) * k.sz)) :=
  Kd.reps_append (Kd.reps_append (Kd.reps_take (hr.imp_ (fun x c h => flat _ _ _ _ _ _ x c h)) (by omega)) (hcr.imp_ (fun x c h => hKM _ _ _ x c h))) (Kd.reps_drop (hr.imp_ (fun x c h => flat _ _ _ _ _ _ x c h)))
 have hlen : (l.take d ++ xs ++ l.drop (d + m)).length = l.length := by rw [List.length_append, List.length_append, List.length_take, List.length_drop, hxl]; omega
 have hover := cells_over (z := k.sz) (n := l.length) (d := d) (m := m) (cur := cur.toList) (cs := cs) (by omega) hd hcl
 rw [← e3] at hover
 rw [show cur.toList.take (l.length * k.sz) = inner from ht] at hover
 refine ⟨_, hrun, ?_, hsame, fun j hj => ?_⟩
 ·have h := R_ofcells (d := k) (e := e) (base := base) (g := g) (cap := c) (W := w.setCells g (d * k.sz) cs) (ok := ok) flat hrall hb e1 (by rw [hlen]; exact hnn) hcm (by rw [e2]; exact hcs) (by rw [hlen]; exact hover) (hok g rfl)
  rw [hlen] at h
  exact h
 ·refine hfar j (fun e => ?_)
  subst e
  rcases hj with hj | hj
  ·exact hj (hok j rfl)
  ·omega

theorem A5_ {p : Prop} (h : p) : Aside0 p := ⟨h⟩
theorem q5_2 {p : Prop} (h : p := by (try simp only [List.map_toArray, List.map_cons, List.map_nil]); first | done | rfl | (simp only [List.length_drop, List.length_take]; rfl)) : p := h
theorem q5_3 {p : Prop} (h : p := by repeat (first | (with_reducible first | exact HB.out | apply below_alloc | apply pw_below_drewN | apply below_drew1 | refine below_set ?_ GE166.out) | exact HB.out)) : p := h
theorem q5_4 {p : Prop} (h : p := by (with_reducible repeat (first | refine blk_drewN ?_ _ | refine blk_drew ?_ | refine blk_alloc ?_ _)); exact BK166.out) : p := h
theorem q5_5 {p : Prop} (h : p := by first | (rw [add_block]; exact hn206_2) | (show (Addr.add _ _).block ≠ _; rw [add_block]; exact hn206_2) | exact hn206_2) : p := h
theorem q5_6 {p : Prop} (h : p := by first | (rw [add_block]; exact hn206_1) | (show (Addr.add _ _).block ≠ _; rw [add_block]; exact hn206_1) | exact hn206_1) : p := h
theorem q5_7 {p : Prop} (h : p := by first | (rw [add_block]; exact hn206_0) | (show (Addr.add _ _).block ≠ _; rw [add_block]; exact hn206_0) | exact hn206_0) : p := h
theorem q5_8 {p : Prop} (h : p := by repeat (first | (with_reducible first | exact HB.out | apply below_alloc | apply pw_below_drewN | apply below_drew1) | exact HB.out)) : p := h
theorem q5_9 {p : Prop} (h : p := by first | (rw [add_block]; exact hn207_2) | (show (Addr.add _ _).block ≠ _; rw [add_block]; exact hn207_2) | exact hn207_2) : p := h
theorem q5_10 {p : Prop} (h : p := by first | (rw [add_block]; exact hn207_1) | (show (Addr.add _ _).block ≠ _; rw [add_block]; exact hn207_1) | exact hn207_1) : p := h
theorem q5_11 {p : Prop} (h : p := by first | (rw [add_block]; exact hn207_0) | (show (Addr.add _ _).block ≠ _; rw [add_block]; exact hn207_0) | exact hn207_0) : p := h
theorem q5_12 {p : Prop} (h : p := by kernel_rfl) : p := h
theorem q5_13 {p : Prop} (h : p := by first | (rw [add_block]; exact hn208_2) | (show (Addr.add _ _).block ≠ _; rw [add_block]; exact hn208_2) | exact hn208_2) : p := h
theorem q5_14 {p : Prop} (h : p := by first | (rw [add_block]; exact hn208_1) | (show (Addr.add _ _).block ≠ _; rw [add_block]; exact hn208_1) | exact hn208_1) : p := h
theorem q5_15 {p : Prop} (h : p := by first | (rw [add_block]; exact hn208_0) | (show (Addr.add _ _).block ≠ _; rw [add_block]; exact hn208_0) | exact hn208_0) : p := h
theorem q5_16 {p : Prop} (h : p := by (with_reducible repeat (first | apply Kd.R_alloc | apply Kd.R_drewN | apply Kd.R_drew)); exact HO204.out) : p := h
theorem q5_17 {p : Prop} (h : p := by (with_reducible repeat (first | apply Kd.R_alloc | apply Kd.R_drewN | apply Kd.R_drew)); exact HO199.out) : p := h
theorem q5_18 {p : Prop} (h : p := by (with_reducible repeat (first | apply Kd.R_alloc | apply Kd.R_drewN | apply Kd.R_drew)); exact HO185.out) : p := h
theorem q5_19 {p : Prop} (h : p := by first | (with_reducible assumption) | assumption) : p := h
theorem q5_20 {p : Prop} (h : p := by omega) : p := h
set_option maxHeartbeats 8000000 in
set_option maxRecDepth 100000 in
theorem grid_Board_Up_line.calls (g : Nat) (rows cols : Int) (A : Option Addr) (n c : Nat) (row : Int) (w : World) (hb : w.heap[g]? = some (.cells #[.int .i64 rows, .int .i64 cols, .slice A n c] 112 (0, 0))) (lo hi : Int) (e0 : wrap64 (row * cols) = lo) (e1 : wrap64 (wrap64 (row + 1) * cols) = hi) (h0 : 0 ≤ lo) (h1 : lo ≤ hi) (h2 : hi ≤ n) (hn : n ≤ c) {i0 : TypeInfo} (hi0 : Try.prog.info? 53 = some i0) (hsz0 : i0.size = 4) :
  Calls Try.prog 77 #[.pointer (some ⟨g, 0, none⟩), .int .i64 row] w fun e w' => e = .returned (.slice (if c = lo.toNat then A else A.map (·.add (lo.toNat * 4))) (hi.toNat - lo.toNat) (c - lo.toNat)) ∧ ∃ m, w' = w.drewN m := by
 have hcm := cut_mid (P := Try.prog) 47 53 .i64 .i64 Try.underlying47 hi0 4 hsz0 A n c lo hi h0 h1 h2 hn
 generalize (if c = lo.toNat then A else A.map (·.add (lo.toNat * 4))) = A2 at hcm ⊢
 have hc0 : w.cell? ⟨g, 1, none⟩ = some (.int .i64 cols) := (blk_cell hb 1).trans rfl
 have hc1 : w.cell? ⟨g, 2, none⟩ = some (.slice A n c) := (blk_cell hb 2).trans rfl
 clear hb hi0 hsz0
 go_enter Try.func77, Try.ntmps77
 go_wp2
 repeat (go_quiet (fail); try go_wp2)
 go_ret
 exact ⟨by first | rfl | simp_all, _, rfl⟩
theorem grid_Board_Up_flat (w w' : World) (b b' : Nat) (ok ok' : Nat → Prop) (x : S53) (c : List Value) (h : k53.M w b ok x c) : k53.M w' b' ok' x c := h
theorem grid_Board_Up_KM (w : World) (b : Nat) (ok : Nat → Prop) (x : S53) (c : List Value) (h : k53.K w x c) : k53.M w b ok x c := h
/-- A board, a cell of the call's own in a box, behind some steps. -/
structure grid_Board_Up_St (w0 w : World) (P : Nat → Prop) (g gb : Nat) (rows cols : Int) (cell : Array Value) (u : Value) (l : List S53) (wr : World) : Prop where
 row : Kd.R k53 53 wr w0.heap.size (fun k_ => (P k_ ∨ w.heap.size ≤ k_) ∧ k_ ≠ gb) u l
 blk : wr.heap[g]? = some (.cells #[.int .i64 rows, .int .i64 cols, u] 112 (0, 0))
 box : wr.heap[gb]? = some (.cells cell 53 (0, 0))
 kept : Kept w wr (fun k_ => P k_ ∨ k_ = g)
 below : Below w0.heap.size w0 wr
 new : w.heap.size ≤ gb ∧ gb ≠ g ∧ w0.heap.size ≤ g
theorem grid_Board_Up_St.drewN {w0 w wr : World} {P : Nat → Prop} {g gb : Nat} {rows cols : Int} {cell : Array Value} {u : Value} {l : List S53} (h : grid_Board_Up_St w0 w P g gb rows cols cell u l wr) (m : Nat) : grid_Board_Up_St w0 w P g gb rows cols cell u l (wr.drewN m) :=
 ⟨Kd.R_drewN h.row m, blk_drewN h.blk m, blk_drewN h.box m, h.kept.drewN m, pw_below_drewN h.below m, h.new⟩
theorem grid_Board_Up_St.then_ {w0 w wr w' : World} {P : Nat → Prop} {g gb : Nat} {rows cols rows' cols' : Int} {cell : Array Value} {u v : Value} {l l' : List S53} (h : grid_Board_Up_St w0 w P g gb rows cols cell u l wr)
  (hR : Kd.R k53 53 w' w0.heap.size (fun k_ => some k_ = u.ownBlock ∨ wr.heap.size ≤ k_) v l') (hb : w'.heap[g]? = some (.cells #[.int .i64 rows', .int .i64 cols', v] 112 (0, 0))) (hB : Below w0.heap.size w0 w') (hk : Kept wr w' (fun k_ => some k_ = u.ownBlock ∨ k_ = g)) :
  grid_Board_Up_St w0 w P g gb rows' cols' cell v l' w' := by
 have hgl : gb < wr.heap.size := blk_lt h.box
 refine ⟨Kd.R_mono hR (fun k hk1 => ?_), hb, blk_kept h.box hk (fun hs => ?_), h.kept.then_ hk (fun k hs => ?_), hB, h.new⟩
 ·rcases hk1 with e | e
  ·exact h.row.1 k e.symm
  ·exact ⟨.inr (Nat.le_trans h.kept.1 e), by omega⟩
 ·rcases hs with e | e
  ·exact (h.row.1 gb e.symm).2 rfl
  ·exact h.new.2.1 e
 ·rcases hs with e | e
  ·rcases (h.row.1 k e.symm).1 with p | p
   ·exact .inl (.inl p)
   ·exact .inr p
  ·exact .inl (.inr e)
theorem grid_Board_Up_St.region {w0 w wr : World} {P : Nat → Prop} {g gb : Nat} {rows cols : Int} {cell : Array Value} {u : Value} {l : List S53} (h : grid_Board_Up_St w0 w P g gb rows cols cell u l wr) (k : Nat) (a1 a2 a3 c0 c1 c2 c3 : Int) {t : Bool} {x y : Int} {l' : List S53} (hf : grid_Board_region.f k rows cols l a1 a2 a3 c0 c1 c2 c3 = some (t, x, y, l')) :
  Calls Try.prog 93 #[.pointer (some ⟨g, 0, none⟩), .int .i64 a1, .int .i64 a2, .int .i64 a3, .agg #[.int .i32 c0, .int .i64 c1, .int .i64 c2, .int .i64 c3]] wr fun e w' => e = .returned (.bool t) ∧ ∃ v, grid_Board_Up_St w0 w P g gb x y cell v l' w' := by
 refine (grid_Board_region.calls k g rows cols (fun k_ => some k_ = u.ownBlock) u l a1 a2 a3 c0 c1 c2 c3 t x y l' w0 wr h.blk h.new.2.2 h.below (Kd.R_tight rfl h.row) hf).mono ?_
 rintro e w' ⟨v, ⟨rfl, h1, h2, h3, h4⟩⟩
 exact ⟨rfl, v, h.then_ h1 h2 h3 h4⟩
theorem grid_Board_Up_St.fill {w0 w wr : World} {P : Nat → Prop} {g gb : Nat} {rows cols : Int} {cell : Array Value} {u : Value} {l : List S53} (h : grid_Board_Up_St w0 w P g gb rows cols cell u l wr) (k : Nat) (a1 a2 a3 c0 c1 c2 c3 : Int) {x y : Int} {l' : List S53} (hf : grid_Board_Fill.f k rows cols l a1 a2 a3 c0 c1 c2 c3 = some (x, y, l')) :
  Calls Try.prog 83 #[.pointer (some ⟨g, 0, none⟩), .int .i64 a1, .int .i64 a2, .int .i64 a3, .agg #[.int .i32 c0, .int .i64 c1, .int .i64 c2, .int .i64 c3]] wr fun e w' => e = .returned (.tuple #[]) ∧ ∃ v, grid_Board_Up_St w0 w P g gb x y cell v l' w' := by
 refine (grid_Board_Fill.calls k g rows cols (fun k_ => some k_ = u.ownBlock) u l a1 a2 a3 c0 c1 c2 c3 x y l' w0 wr h.blk h.new.2.2 h.below (Kd.R_tight rfl h.row) hf).mono ?_
 rintro e w' ⟨v, ⟨rfl, h1, h2, h3, h4⟩⟩
 exact ⟨rfl, v, h.then_ h1 h2 h3 h4⟩
theorem grid_Board_Up_St.copy {w0 w wr : World} {P : Nat → Prop} {g gb : Nat} {rows cols : Int} {cell : Array Value} {A : Option Addr} {n c : Nat} {l : List S53} (h : grid_Board_Up_St w0 w P g gb rows cols cell (.slice A n c) l wr) (d s m : Nat) (hm : 0 < m) (hd : d + m ≤ l.length) (hs : s + m ≤ l.length) :
  ∃ w2, (∀ ty, (Builtin.copy_ #[47, 47] ty #[.slice (if c = d then A else A.map (·.add (d * 4))) m (c - d), .slice (if c = s then A else A.map (·.add (s * 4))) m (c - s)]).run Try.prog wr = .ok (goInt m) w2) ∧ grid_Board_Up_St w0 w P g gb rows cols cell (.slice A n c) (l.take d ++ (l.take (s + m)).drop s ++ l.drop (d + m)) w2 := by
 obtain ⟨i0, hi0, _, hsz0, _⟩ := info_parts info53
 obtain ⟨hn, hnc, hC⟩ := Kd.R_reads' h.row
 subst hn
 have hC2 := Kd.C_mid (k := k53) (c := c) (lo := s) (hi := s + m) hC q5_20 hs hnc
 have hl2 : ((l.take (s + m)).drop s).length = m := by rw [List.length_drop, List.length_take]; omega
 rw [hl2] at hC2
 obtain ⟨w2, e1, e2, e3, e4⟩ := copy_own (P := Try.prog) (k := k53) grid_Board_Up_flat grid_Board_Up_KM (Kd.R_tight rfl h.row) hC2 (by decide) 47 47 Try.underlying47 hi0 hsz0 d m (c - d) m (c - s) (Nat.min_self m) hm hd _ rfl
 refine ⟨w2, e1, Kd.R_mono e2 (fun k hk => h.row.1 k hk.symm), (e4 g (.inl (fun e => Kd.R_ne h.row h.blk (by decide) e))).trans h.blk, (e4 gb (.inl (fun e => (h.row.1 gb e.symm).2 rfl))).trans h.box, h.kept.then_ (S2 := fun k_ => some k_ = (Value.slice A l.length c).ownBlock) ⟨Nat.le_of_eq e3.2.2.2.symm, fun i _ hi => e4 i (.inl hi)⟩ (fun k hk => (h.row.1 k hk.symm).1.imp .inl id), ?_, h.new⟩
 exact ⟨e3.1.trans h.below.os, e3.2.1.trans h.below.tape, e3.2.2.1.trans h.below.output, by rw [e3.2.2.2]; exact h.below.size, fun k hk => (e4 k (.inr hk)).trans (h.below.block k hk)⟩
theorem grid_Board_Up_St.drew {w0 w wr : World} {P : Nat → Prop} {g gb : Nat} {rows cols : Int} {cell : Array Value} {u : Value} {l : List S53} (h : grid_Board_Up_St w0 w P g gb rows cols cell u l wr) : grid_Board_Up_St w0 w P g gb rows cols cell u l wr.drew :=
 ⟨Kd.R_drew h.row, blk_drew h.blk, blk_drew h.box, h.kept.drew, below_drew1 h.below, h.new⟩

theorem grid_Board_Up_St.start {w0 w w1 : World} {P : Nat → Prop} {g gb : Nat} {rows cols : Int} {cell : Array Value} {u : Value} {l : List S53} (hb : w.heap[g]? = some (.cells #[.int .i64 rows, .int .i64 cols, u] 112 (0, 0))) (hg : w0.heap.size ≤ g) (hB : Below w0.heap.size w0 w) (ho : Kd.R k53 53 w w0.heap.size P u l) (hgb : gb = w.heap.size) (hbx : w1.heap[gb]? = some (.cells cell 53 (0, 0))) (hbl : Below w.heap.size w w1) : grid_Board_Up_St w0 w P g gb rows cols cell u l w1 :=
 ⟨Kd.R_below (Kd.R_elderB (Kd.R_mono ho (fun k_ hk_ => .inl hk_)) gb (Nat.le_of_eq hgb.symm)) hbl, blk_below hb hbl, hbx, Kept.of_below hbl _, below_step hB hbl, by omega, by have := blk_lt hb; omega, hg⟩
theorem grid_Board_Up_rows {r rows cols : Int} {n : Nat} (h0 : 0 ≤ r) (h1 : r < rows) (h2 : rows ≤ 10000) (h3 : 1 ≤ cols) (h4 : cols ≤ 10000) (hl : (n : Int) = rows * cols) : 0 ≤ r * cols ∧ r * cols + cols ≤ n ∧ (r + 1) * cols = r * cols + cols ∧ r * cols + cols ≤ 100000000 := by
 have a1 : 0 ≤ r * cols := Int.mul_nonneg h0 q5_20
 have a2 : (r + 1) * cols = r * cols + cols := by rw [Int.add_mul, Int.one_mul]
 have a3 : (r + 1) * cols ≤ rows * cols := Int.mul_le_mul_of_nonneg_right q5_20 q5_20
 have a4 : rows * cols ≤ 10000 * 10000 := Int.mul_le_mul h2 h4 q5_20 q5_20
 omega
theorem grid_Board_Up_St.line {w0 w wr : World} {P : Nat → Prop} {g gb : Nat} {rows cols : Int} {cell : Array Value} {A : Option Addr} {n c : Nat} {l : List S53} (h : grid_Board_Up_St w0 w P g gb rows cols cell (.slice A n c) l wr) (r : Int) (h0 : 0 ≤ r) (h1 : r < rows) (h2 : rows ≤ 10000) (h3 : 1 ≤ cols) (h4 : cols ≤ 10000) (hl : (l.length : Int) = rows * cols) :
  Calls Try.prog 77 #[.pointer (some ⟨g, 0, none⟩), .int .i64 r] wr fun e w' => e = .returned (.slice (if c = (r * cols).toNat then A else A.map (·.add ((r * cols).toNat * 4))) cols.toNat (c - (r * cols).toNat)) ∧ ∃ m, w' = wr.drewN m := by
 obtain ⟨i0, hi0, _, hsz0, _⟩ := info_parts info53
 obtain ⟨hn, hnc, hC⟩ := Kd.R_reads' h.row
 subst hn
 obtain ⟨b1, b2, b3, b4⟩ := grid_Board_Up_rows h0 h1 h2 h3 h4 hl
 have hc := grid_Board_Up_line.calls g rows cols A l.length c r wr h.blk (r * cols) (r * cols + cols) (by unfold wrap64; omega) (by rw [show wrap64 (r + 1) = r + 1 by unfold wrap64; omega, b3]; unfold wrap64; omega) b1 q5_20 b2 hnc hi0 hsz0
 rw [show (r * cols + cols).toNat - (r * cols).toNat = cols.toNat by omega] at hc
 exact hc
def grid_Board_Up_copy (l : List S53) (d s m : Nat) : List S53 := l.take d ++ (l.take (s + m)).drop s ++ l.drop (d + m)
theorem grid_Board_Up_copy_length (l : List S53) (d s m : Nat) (hd : d + m ≤ l.length) (hs : s + m ≤ l.length) : (grid_Board_Up_copy l d s m).length = l.length := by
 simp only [grid_Board_Up_copy, List.length_append, List.length_take, List.length_drop]
 omega
theorem grid_Board_Up_St.move {w0 w wr : World} {P : Nat → Prop} {g gb : Nat} {rows cols : Int} {cell : Array Value} {u : Value} {l : List S53} (h : grid_Board_Up_St w0 w P g gb rows cols cell u l wr) (r s : Int) (h0 : 0 ≤ r) (h1 : r < rows) (hs0 : 0 ≤ s) (hs1 : s < rows) (h2 : rows ≤ 10000) (h3 : 1 ≤ cols) (h4 : cols ≤ 10000) (hl : (l.length : Int) = rows * cols) :
  (grid_Board_Up_copy l (r * cols).toNat (s * cols).toNat cols.toNat).length = l.length ∧ ∃ (A1 A2 : Option Addr) (M c1 c2 : Nat), Calls Try.prog 77 #[.pointer (some ⟨g, 0, none⟩), .int .i64 r] wr (fun e w' => e = .returned (.slice A1 M c1) ∧ ∃ m, w' = wr.drewN m) ∧ (∀ m, Calls Try.prog 77 #[.pointer (some ⟨g, 0, none⟩), .int .i64 s] (wr.drewN m) (fun e w' => e = .returned (.slice A2 M c2) ∧ ∃ m2, w' = (wr.drewN m).drewN m2)) ∧
   ∀ m, ∃ w2, (∀ ty, (Builtin.copy_ #[47, 47] ty #[.slice A1 M c1, .slice A2 M c2]).run Try.prog (wr.drewN m) = .ok (goInt M) w2) ∧ grid_Board_Up_St w0 w P g gb rows cols cell u (grid_Board_Up_copy l (r * cols).toNat (s * cols).toNat cols.toNat) w2 := by
 obtain ⟨A, c, rfl⟩ := Kd.R_slice h.row
 obtain ⟨d1, d2, d3, d4⟩ := grid_Board_Up_rows h0 h1 h2 h3 h4 hl
 obtain ⟨e1, e2, e3, e4⟩ := grid_Board_Up_rows hs0 hs1 h2 h3 h4 hl
 exact ⟨grid_Board_Up_copy_length l _ _ _ q5_20 q5_20, _, _, _, _, _, h.line r h0 h1 h2 h3 h4 hl, fun m => (h.drewN m).line s hs0 hs1 h2 h3 h4 hl, fun m => (h.drewN m).copy (r * cols).toNat (s * cols).toNat cols.toNat q5_20 q5_20 q5_20⟩
def grid_Board_Up.loop (k : Nat) (rows cols bottom n c0 c1 c2 c3 : Int) : Nat → Int → List S53 → Option (List S53)
 | 0, _, l => some l
 | j + 1, r, l => if r + n ≤ bottom then grid_Board_Up.loop k rows cols bottom n c0 c1 c2 c3 j (r + 1) (grid_Board_Up_copy l (r * cols).toNat ((r + n) * cols).toNat cols.toNat) else (grid_Board_Fill.f k rows cols l r 0 cols c0 c1 c2 c3).bind fun t => if t.1 = rows ∧ t.2.1 = cols ∧ t.2.2.length = l.length then grid_Board_Up.loop k rows cols bottom n c0 c1 c2 c3 j (r + 1) t.2.2 else none
def grid_Board_Up.f (k : Nat) (a0_0 a0_1 : Int) (l0_2 : List S53) (a1 a2 a3 : Int) (a4_0 a4_1 a4_2 a4_3 : Int) : Option (Int × Int × List S53) :=
 (grid_Board_region.f k a0_0 a0_1 l0_2 a1 a2 a3 a4_0 a4_1 a4_2 a4_3).bind fun t => if t.1 = true then (if 0 ≤ a1 ∧ a1 ≤ a2 ∧ a2 < t.2.1 ∧ 1 ≤ a3 ∧ t.2.1 ≤ 10000 ∧ 1 ≤ t.2.2.1 ∧ t.2.2.1 ≤ 10000 ∧ (t.2.2.2.length : Int) = t.2.1 * t.2.2.1 then (grid_Board_Up.loop k t.2.1 t.2.2.1 a2 (mn a3 (a2 - a1 + 1)) a4_0 a4_1 a4_2 a4_3 (a2 - a1 + 1).toNat a1 t.2.2.2).bind fun l => some (t.2.1, t.2.2.1, l) else none) else some (t.2.1, t.2.2.1, t.2.2.2)
theorem grid_Board_Up.mono_l (k : Nat) (rows cols bottom n c0 c1 c2 c3 : Int) : ∀ j r l, LeO (grid_Board_Up.loop k rows cols bottom n c0 c1 c2 c3 j r l) (grid_Board_Up.loop (k + 1) rows cols bottom n c0 c1 c2 c3 j r l)
 | 0, _, _ => LeO.refl _
 | j + 1, r, l => by
  unfold grid_Board_Up.loop
  exact LeO.ite (grid_Board_Up.mono_l k rows cols bottom n c0 c1 c2 c3 j _ _) (LeO.bind (grid_Board_Fill.mono _ _ _ _ _ _ _ _ _ _ _) (fun _ => LeO.ite (grid_Board_Up.mono_l k rows cols bottom n c0 c1 c2 c3 j _ _) (LeO.none _)))
theorem grid_Board_Up.mono : ∀ a0 a1 a2 a3 a4 a5 a6 a7 a8 a9 k, LeO (grid_Board_Up.f k a0 a1 a2 a3 a4 a5 a6 a7 a8 a9) (grid_Board_Up.f (k + 1) a0 a1 a2 a3 a4 a5 a6 a7 a8 a9) := by
 intro a0 a1 a2 a3 a4 a5 a6 a7 a8 a9 k
 unfold grid_Board_Up.f
 exact LeO.bind (grid_Board_region.mono _ _ _ _ _ _ _ _ _ _ _) (fun _ => LeO.ite (LeO.ite (LeO.bind (grid_Board_Up.mono_l _ _ _ _ _ _ _ _ _ _ _ _) (fun _ => LeO.refl _)) (LeO.none _)) (LeO.refl _))
def grid_Board_Up.T8 : Bool × List (List Nat × List Nat) := (true, [([], []), ([], []), ([], []), ([2], [2]), ([3], [3]), ([4], [4]), ([], []), ([0, 1, 5, 6], [0, 1, 5, 6])])
def grid_Board_Up.B8 : List Nat := [0, 0, 0, 4, 12, 28, 0, 127]
theorem grid_Board_Up.tab8 : rtab .any (opsOf Try.f73 8) = grid_Board_Up.T8 := by kernel_rfl
theorem grid_Board_Up.bits8 : waitsOk grid_Board_Up.T8.2 grid_Board_Up.B8 = true := by kernel_rfl
set_option maxHeartbeats 8000000 in
set_option maxRecDepth 100000 in
theorem grid_Board_Up.calls (k : Nat) (g : Nat) (a0_0 : Int) (a0_1 : Int) (P0_2_ : Nat → Prop) (u9000_ : Value) (l0_2 : List (S53)) (a1 : Int) (a2 : Int) (a3 : Int) (a4_0 : Int) (a4_1 : Int) (a4_2 : Int) (a4_3 : Int) (r1 : Int) (r2 : Int) (r3 : List (S53)) (w0 w : World) (hb : w.heap[g]? = some (.cells #[.int .i64 a0_0, .int .i64 a0_1, u9000_] 112 (0, 0))) (hg : w0.heap.size ≤ g) (hB : Below w0.heap.size w0 w) (ho0_2 : Kd.R k53 53 w w0.heap.size P0_2_ u9000_ l0_2) (h : grid_Board_Up.f k a0_0 a0_1 l0_2 a1 a2 a3 a4_0 a4_1 a4_2 a4_3 = some (r1, r2, r3)) :
  Calls Try.prog 73 #[.pointer (some ⟨g, 0, none⟩), .int .i64 a1, .int .i64 a2, .int .i64 a3, .agg #[.int .i32 a4_0, .int .i64 a4_1, .int .i64 a4_2, .int .i64 a4_3]] w fun e w' => ∃ v2_ : Value, Aside0 (e = .returned (.tuple #[]) ∧ Kd.R k53 53 w' w0.heap.size (fun k_ => (P0_2_ k_ ∨ w.heap.size ≤ k_)) v2_ r3 ∧ w'.heap[g]? = some (.cells #[.int .i64 r1, .int .i64 r2, v2_] 112 (0, 0)) ∧ Below w0.heap.size w0 w' ∧ Kept w w' (fun k_ => (P0_2_ k_) ∨ k_ = g)) := by
 unfold grid_Board_Up.f at h
 obtain ⟨⟨t, x, y, l⟩, hreg, h⟩ := Option.bind_eq_some_iff.mp h
 have HST := A5_ (fun (gb : Nat) (w1 : World) (hgb : gb = w.heap.size) (hbx : w1.heap[gb]? = some (.cells #[.int .i32 a4_0, .int .i64 a4_1, .int .i64 a4_2, .int .i64 a4_3] 53 (0, 0))) (hbl : Below w.heap.size w w1) => grid_Board_Up_St.start hb hg hB ho0_2 hgb hbx hbl)
 have HREG := A5_ hreg
 have hfin : ∀ (gb : Nat) (u : Value) (rows cols : Int) (l' : List S53) (wr : World), grid_Board_Up_St w0 w P0_2_ g gb rows cols #[.int .i32 a4_0, .int .i64 a4_1, .int .i64 a4_2, .int .i64 a4_3] u l' wr → ∃ v2_ : Value, (Kd.R k53 53 wr w0.heap.size (fun k_ => (P0_2_ k_ ∨ w.heap.size ≤ k_)) v2_ l' ∧ wr.heap[g]? = some (.cells #[.int .i64 rows, .int .i64 cols, v2_] 112 (0, 0)) ∧ Below w0.heap.size w0 wr ∧ Kept w wr (fun k_ => (P0_2_ k_) ∨ k_ = g)) := fun gb u rows cols l' wr h => ⟨u, Kd.R_mono h.row (fun _ hk => hk.1), h.blk, h.below, h.kept⟩
 have HFIN := A5_ hfin
 clear hreg hfin hb hg hB ho0_2
 cases t with
 | false =>
  have h2 : (some (x, y, l) : Option (Int × Int × List S53)) = some (r1, r2, r3) := h
  simp only [Option.some.injEq, Prod.mk.injEq] at h2
  obtain ⟨rfl, rfl, rfl⟩ := h2
  clear h
  go_enter Try.func73, Try.ntmps73
  go_wp2_with (first
   | ((with_reducible refine gate_dst (N := 9) rfl ?_); refine box_event ?hg (N := 9) ?hd (cs := #[.int .i32 a4_0, .int .i64 a4_1, .int .i64 a4_2, .int .i64 a4_3]) (t := 53) ?hr ?_; (case hd => rfl); (case hg => rfl); (case hr => first | (go_simp; done) | (go_simp; rfl)); intro gb hgb w1 hbx hbl; have HS := A5_ (HST.out gb w1 hgb hbx hbl); have hcz0 : w1.cell? ⟨gb, 0, none⟩ = some (.int .i32 a4_0) := (blk_cell hbx 0).trans rfl; have hcz1 : w1.cell? ⟨gb, 1, none⟩ = some (.int .i64 a4_1) := (blk_cell hbx 1).trans rfl; have hcz2 : w1.cell? ⟨gb, 2, none⟩ = some (.int .i64 a4_2) := (blk_cell hbx 2).trans rfl; have hcz3 : w1.cell? ⟨gb, 3, none⟩ = some (.int .i64 a4_3) := (blk_cell hbx 3).trans rfl; clear hgb hbx hbl)
   | (go_at_call 93; refine (HS.out.region k a1 a2 a3 a4_0 a4_1 a4_2 a4_3 HREG.out).mono ?_; rintro e w2 ⟨rfl, v2, hS2⟩; have HS2 := A5_ hS2; clear hS2))
  first | ((try simp only [Exit.inBlock, Exit.then]); refine bodyPost_ret (results_none rfl _ _ _) rfl ?_) | go_end0
  obtain ⟨v, hv⟩ := HFIN.out _ _ _ _ _ _ HS2.out
  exact ⟨v, ⟨rfl, hv⟩⟩
 | true =>
  have h2 : (if 0 ≤ a1 ∧ a1 ≤ a2 ∧ a2 < x ∧ 1 ≤ a3 ∧ x ≤ 10000 ∧ 1 ≤ y ∧ y ≤ 10000 ∧ (l.length : Int) = x * y then (grid_Board_Up.loop k x y a2 (mn a3 (a2 - a1 + 1)) a4_0 a4_1 a4_2 a4_3 (a2 - a1 + 1).toNat a1 l).bind fun l => some (x, y, l) else none) = some (r1, r2, r3) := h
  clear h
  split at h2
  ·rename_i hc
   obtain ⟨hc1, hc2, hc3, hc4, hc5, hc6, hc7, hc8⟩ := hc
   obtain ⟨lf, hloop, h3⟩ := Option.bind_eq_some_iff.mp h2
   simp only [Option.some.injEq, Prod.mk.injEq] at h3
   obtain ⟨rfl, rfl, rfl⟩ := h3
   obtain ⟨nn, hnn⟩ : ∃ n, n = mn a3 (a2 - a1 + 1) := ⟨_, rfl⟩
   rw [← hnn] at hloop
   have hn1 : 1 ≤ nn ∧ nn ≤ 10000 := by rw [hnn]; unfold mn; split <;> omega
   have hw1 : wrap64 (a2 - a1) = a2 - a1 := by unfold wrap64; omega
   have hw2 : wrap64 (a2 - a1 + 1) = a2 - a1 + 1 := by unfold wrap64; omega
   have hmn : (if a2 - a1 + 1 < a3 then a2 - a1 + 1 else a3) = nn := hnn.symm
   have HL := A5_ hloop
   have HN := A5_ hn1
   have HC := A5_ (And.intro hc1 (And.intro hc2 (And.intro hc3 (And.intro hc5 (And.intro hc6 (And.intro hc7 hc8))))))
   clear hloop h2 hc4 hnn hn1 hc1 hc2 hc3 hc5 hc6 hc7 hc8
   go_enter Try.func73, Try.ntmps73
   go_wp2_with (first
    | ((with_reducible refine gate_dst (N := 9) rfl ?_); refine box_event ?hg (N := 9) ?hd (cs := #[.int .i32 a4_0, .int .i64 a4_1, .int .i64 a4_2, .int .i64 a4_3]) (t := 53) ?hr ?_; (case hd => rfl); (case hg => rfl); (case hr => first | (go_simp; done) | (go_simp; rfl)); intro gb hgb w1 hbx hbl; have HS := A5_ (HST.out gb w1 hgb hbx hbl); have hcz0 : w1.cell? ⟨gb, 0, none⟩ = some (.int .i32 a4_0) := (blk_cell hbx 0).trans rfl; have hcz1 : w1.cell? ⟨gb, 1, none⟩ = some (.int .i64 a4_1) := (blk_cell hbx 1).trans rfl; have hcz2 : w1.cell? ⟨gb, 2, none⟩ = some (.int .i64 a4_2) := (blk_cell hbx 2).trans rfl; have hcz3 : w1.cell? ⟨gb, 3, none⟩ = some (.int .i64 a4_3) := (blk_cell hbx 3).trans rfl; clear hgb hbx hbl)
    | (go_at_call 93; refine (HS.out.region k a1 a2 a3 a4_0 a4_1 a4_2 a4_3 HREG.out).mono ?_; rintro e w2 ⟨rfl, v2, hS2⟩; have HS2 := A5_ hS2; clear hS2))
   clear hw1 hw2 hmn
   go_loopg [10] ((a2 - a1 + 1).toNat + 1) (fun kq v10 wr => ∃ (z : Int) (l1 : List S53) (u1 : Value), v10 = .int .i64 z ∧ Aside0 (grid_Board_Up.loop k x y a2 nn a4_0 a4_1 a4_2 a4_3 (kq - 1) z l1 = some lf ∧ z + ((kq : Nat) : Int) = a2 + 2 ∧ 1 ≤ kq ∧ a1 ≤ z ∧ l1.length = l.length) ∧ Aside0 (grid_Board_Up_St w0 w P0_2_ g gb x y #[.int .i32 a4_0, .int .i64 a4_1, .int .i64 a4_2, .int .i64 a4_3] u1 l1 wr))
   case atStart => exact ⟨a1, l, _, rfl, ⟨by rw [Nat.add_sub_cancel]; exact HL.out, by have := HC.out; omega, by omega, Int.le_refl _, rfl⟩, ⟨HS2.out⟩⟩
   case round =>
    obtain ⟨z, l1, u1, rfl, HQ, HS3⟩ := hrel
    obtain ⟨hlo, hz, hq1, haz, hll⟩ := HQ.out
    cases gk with
    | zero => omega
    | succ j =>
     rw [Nat.add_sub_cancel] at hlo
     cases j with
     | zero =>
      have hib : decide (z ≤ a2) = false := decide_eq_false q5_20
      have hlf : l1 = lf := Option.some.inj hlo
      subst hlf; clear hlo hz hq1 haz hll
      go_wp2
      first | ((try simp only [Exit.inBlock, Exit.then]); refine bodyPost_ret (results_none rfl _ _ _) rfl ?_) | go_end0
      obtain ⟨v, hv⟩ := HFIN.out _ _ _ _ _ _ HS3.out
      exact ⟨v, ⟨rfl, hv⟩⟩
     | succ j =>
      have hib : decide (z ≤ a2) = true := decide_eq_true q5_20
      obtain ⟨hc1, hc2, hc3, hc5, hc6, hc7, hc8⟩ := HC.out
      have hn1 := HN.out
      have hzn : wrap64 (z + nn) = z + nn := by unfold wrap64; omega
      have hz1 : wrap64 (z + 1) = z + 1 := by unfold wrap64; omega
      unfold grid_Board_Up.loop at hlo
      split at hlo
      ·rename_i hle
       have hleb : decide (z + nn ≤ a2) = true := decide_eq_true hle
       have hl8 : (l1.length : Int) = x * y := by rw [hll]; exact hc8
       obtain ⟨hgl, A1, A2, M, d1, d2, hline1, hline2, hcopy⟩ := HS3.out.move z (z + nn) q5_20 q5_20 q5_20 q5_20 hc5 hc6 hc7 hl8
       have HG := A5_ hgl
       have HLO := A5_ hlo
       have HL1 := A5_ hline1
       have HL2 := A5_ hline2
       have HCP := A5_ hcopy
       clear hlo hgl hl8 hc1 hc2 hc3 hc5 hc6 hc7 hc8 hn1 hline1 hline2 hcopy hz hq1 haz hll
       go_wp2_with (first
        | (go_at_call 77; with_reducible refine (HL2.out m1).mono ?_; rintro e w4 ⟨rfl, m2, rfl⟩; obtain ⟨w5, hrun, hS5⟩ := HCP.out (m1 + m2); have HS5 := A5_ hS5; clear hS5)
        | (go_at_call 77; with_reducible refine HL1.out.mono ?_; rintro e w3 ⟨rfl, m1, rfl⟩))
       go_roundg (j + 1)
       case measure => have := HQ.out; omega
       case rel =>
        exact ⟨z + 1, _, _, by rw [hz1], ⟨HLO.out, by have := HQ.out; omega, by omega, by have := HQ.out; omega, by rw [HG.out]; exact HQ.out.2.2.2.2⟩, ⟨HS5.out⟩⟩
      ·rename_i hle
       have hleb : decide (z + nn ≤ a2) = false := decide_eq_false hle
       obtain ⟨⟨x', y', l2⟩, hfl, hlo2⟩ := Option.bind_eq_some_iff.mp hlo
       have hlo3 : (if x' = x ∧ y' = y ∧ l2.length = l1.length then grid_Board_Up.loop k x y a2 nn a4_0 a4_1 a4_2 a4_3 j (z + 1) l2 else none) = some lf := hlo2
       clear hlo hlo2
       split at hlo3
       ·rename_i hsame
        obtain ⟨rfl, rfl, hl2⟩ := hsame
        have HG := A5_ hl2
        have HLO := A5_ hlo3
        have HS4 := A5_ HS3.out.drew
        have HF := A5_ (HS4.out.fill k z 0 y' a4_0 a4_1 a4_2 a4_3 hfl)
        clear hlo3 hl2 hfl hc1 hc2 hc3 hc5 hc6 hc7 hc8 hn1 hz hq1 haz hll
        go_wp2
        refine start_ (n := 8) (S := fun w' => w'.cell? ⟨g, 1, none⟩ = some (.int .i64 y') ∧ w'.cell? ⟨gb, 0, none⟩ = some (.int .i32 a4_0) ∧ w'.cell? ⟨gb, 1, none⟩ = some (.int .i64 a4_1) ∧ w'.cell? ⟨gb, 2, none⟩ = some (.int .i64 a4_2) ∧ w'.cell? ⟨gb, 3, none⟩ = some (.int .i64 a4_3)) (ds := [7]) #[false, false, false, false, false, false, false, false] q5_12 rfl rfl ⟨(blk_cell HS4.out.blk 1).trans rfl, (blk_cell HS4.out.box 0).trans rfl, (blk_cell HS4.out.box 1).trans rfl, (blk_cell HS4.out.box 2).trans rfl, (blk_cell HS4.out.box 3).trans rfl⟩ (fun hHeld => ?_); refine with_tabW grid_Board_Up.tab8 grid_Board_Up.bits8 (fun HT_ HW_ => ?_)
        refine pure_ (i := 0) (N := some 44) (v := ?_) (a' := ?_) #[true, false, false, false, false, false, false, false] rfl rfl (any_of HT_.out q5_12) (fun _ _ _ h => h) (Or.inl ⟨by rfl, ?_⟩) ?_ ?_
        rotate_left; · intro w'; go_simp; with_reducible rfl
        rotate_left; · simp only [Act.put, setIfInBounds_toArray, set_cons_zero, set_cons_succ, i64_w, i32_w]; rfl
        refine pure_ (i := 1) (N := some 45) (v := ?_) (a' := ?_) #[true, true, false, false, false, false, false, false] rfl rfl (any_of HT_.out q5_12) (fun _ _ _ h => h) (Or.inl ⟨by rfl, ?_⟩) ?_ ?_
        rotate_left; · intro w'; go_simp; with_reducible rfl
        rotate_left; · simp only [Act.put, setIfInBounds_toArray, set_cons_zero, set_cons_succ, i64_w, i32_w]; rfl
        refine pure_ (i := 2) (N := some 46) (v := ?_) (a' := ?_) #[true, true, true, false, false, false, false, false] rfl rfl (any_of HT_.out q5_12) (fun _ _ _ h => h) (Or.inl ⟨by rfl, ?_⟩) ?_ ?_
        rotate_left; · intro w'; go_simp; with_reducible rfl
        rotate_left; · simp only [Act.put, setIfInBounds_toArray, set_cons_zero, set_cons_succ, i64_w, i32_w]; rfl
        refine pure_ (i := 3) (N := some 47) (v := ?_) (a' := ?_) #[true, true, true, true, false, false, false, false] rfl rfl (any_of HT_.out q5_12) (fun _ _ _ h => h) (Or.inl ⟨by rfl, ?_⟩) ?_ ?_
        rotate_left; · intro w'; go_simp; with_reducible rfl
        rotate_left; · simp only [Act.put, setIfInBounds_toArray, set_cons_zero, set_cons_succ, i64_w, i32_w]; rfl
        refine pure_ (i := 4) (N := some 48) (v := ?_) (a' := ?_) #[true, true, true, true, true, false, false, false] rfl rfl (any_of HT_.out q5_12) (fun _ _ _ h => h) (Or.inl ⟨by rfl, ?_⟩) ?_ ?_
        rotate_left; · intro w'; go_simp; with_reducible rfl
        rotate_left; · simp only [Act.put, setIfInBounds_toArray, set_cons_zero, set_cons_succ, i64_w, i32_w]; rfl
        refine take_ (i := 5) (N := some 49) (v := ?_) (a' := ?_) #[true, true, true, true, true, true, false, false] rfl rfl (take_ofW HT_.out HW_.out q5_12) (fun _ _ _ h => h) (Or.inl ⟨by rfl, ?_⟩) hHeld ?_ ?_
        rotate_left; · rintro w' ⟨s0, s1, s2, s3, s4⟩; go_simp; with_reducible rfl
        rotate_left; · simp only [Act.put, setIfInBounds_toArray, set_cons_zero, set_cons_succ, i64_w, i32_w]; rfl
        refine take_ (i := 6) (N := some 50) (v := ?_) (a' := ?_) #[true, true, true, true, true, true, true, false] rfl rfl (take_ofW HT_.out HW_.out q5_12) (fun _ _ _ h => h) (Or.inl ⟨by rfl, ?_⟩) hHeld ?_ ?_
        rotate_left; · rintro w' ⟨s0, s1, s2, s3, s4⟩; go_simp; with_reducible rfl
        rotate_left; · simp only [Act.put, setIfInBounds_toArray, set_cons_zero, set_cons_succ, i64_w, i32_w]; rfl
        refine last_ (i := 7) (N := some 51) #[true, true, true, true, true, true, true, true] rfl rfl (one_of HT_.out q5_12) (by decide) (fun K hK => ?_)
        refine goes_ Try.func83 q5_12 rfl #[.pointer (some ⟨g, 0, none⟩), .int .i64 z, .int .i64 0, .int .i64 y', .agg #[.int .i32 a4_0, .int .i64 a4_1, .int .i64 a4_2, .int .i64 a4_3]] (by rfl) rfl rfl (by (try simp only [List.map_toArray, List.map_cons, List.map_nil]); first | done | rfl) ?_
        refine HF.out.mono ?_
        rintro e w5 ⟨rfl, v5, hS5⟩
        refine ⟨_, rfl, ?_⟩
        have HS5 := A5_ hS5
        clear hS5
        refine hK.out _ _ ?_
        clear hK K
        refine done_ (done_of HT_.out q5_12) ?_
        go_wp2
        go_roundg (j + 1)
        case measure => have := HQ.out; omega
        case rel =>
         exact ⟨z + 1, _, _, by rw [hz1], ⟨HLO.out, by have := HQ.out; omega, by omega, by have := HQ.out; omega, by rw [HG.out]; exact HQ.out.2.2.2.2⟩, ⟨HS5.out⟩⟩
       ·cases hlo3
  ·cases h2

/-! ### batonref10_Blank: function 74 -/
def batonref10_Blank.f  : Option (Int × Int × Int × Int) := some (32, 0, 0, 0)
set_option maxHeartbeats 8000000 in
set_option maxRecDepth 100000 in
theorem batonref10_Blank.calls  (r1 : Int) (r2 : Int) (r3 : Int) (r4 : Int) (w : World) (h : batonref10_Blank.f  = some (r1, r2, r3, r4)) :
  Calls Try.prog 74 #[] w fun e w' => e = .returned (.agg #[.int .i32 r1, .int .i64 r2, .int .i64 r3, .int .i64 r4]) ∧ Below w.heap.size w w' := by
 have hu53 := Try.underlying53
 have HB := A5_ (Below.refl w.heap.size w)
 have H : (some (32, 0, 0, 0)) = some (r1, r2, r3, r4) := h
 clear h
 simp only [Option.some.injEq, Prod.mk.injEq] at H
 obtain ⟨rfl, rfl, rfl, rfl⟩ := H
 go_enter Try.func74, Try.ntmps74
 go_wp2_with (first | ((with_reducible refine gate_dst (N := 0) rfl ?_); refine box_event ?hg (N := 0) ?hd (cs := #[.int .i32 0, .int .i64 0, .int .i64 0, .int .i64 0]) (t := 53) ?hr ?_; (case hd => rfl); (case hg => rfl); (case hr => first | (go_simp; done) | (go_simp; rfl)); intro gb159 hg w1 hbox hb; have n0_ := A5_ (below_step q5_8 hb); have n1_ := A5_ (hbox); have n2_ := A5_ ((by rw [hg]; exact (below_size q5_8) : w.heap.size ≤ gb159)); have n3_ := A5_ ((by rw [hg]; exact (below_size q5_8) : w.heap.size ≤ gb159)); clear HB; have HB := n0_; have BK159 := n1_; have GW159 := n2_; have GE159 := n3_; clear n0_ n1_ n2_ n3_; clear hb hbox hg; have hcz2_0 : w1.cell? ⟨gb159, 0, none⟩ = some (.int .i32 0) := (blk_cell BK159.out 0).trans rfl; have hcz2_1 : w1.cell? ⟨gb159, 1, none⟩ = some (.int .i64 0) := (blk_cell BK159.out 1).trans rfl; have hcz2_2 : w1.cell? ⟨gb159, 2, none⟩ = some (.int .i64 0) := (blk_cell BK159.out 2).trans rfl; have hcz2_3 : w1.cell? ⟨gb159, 3, none⟩ = some (.int .i64 0) := (blk_cell BK159.out 3).trans rfl; have hfz2_0 := blk_frozen BK159.out 0; have hfz2_1 := blk_frozen BK159.out 1; have hfz2_2 := blk_frozen BK159.out 2; have hfz2_3 := blk_frozen BK159.out 3))
 refine bodyPost_ret (results_cell_row rfl _ _ gb159 53 #[.int .i32 32, .int .i64 0, .int .i64 0, .int .i64 0] (0, 0) _ rfl (by (with_reducible repeat (first | refine blk_drewN ?_ _ | refine blk_drew ?_ | refine blk_alloc ?_ _)); refine blk_put (cs := #[.int .i32 32, .int .i64 0, .int .i64 0, .int .i64 0]) ?_ 3 _ rfl; (with_reducible repeat (first | refine blk_drewN ?_ _ | refine blk_drew ?_ | refine blk_alloc ?_ _)); refine blk_put (cs := #[.int .i32 32, .int .i64 0, .int .i64 0, .int .i64 0]) ?_ 2 _ rfl; (with_reducible repeat (first | refine blk_drewN ?_ _ | refine blk_drew ?_ | refine blk_alloc ?_ _)); refine blk_put (cs := #[.int .i32 32, .int .i64 0, .int .i64 0, .int .i64 0]) ?_ 1 _ rfl; (with_reducible repeat (first | refine blk_drewN ?_ _ | refine blk_drew ?_ | refine blk_alloc ?_ _)); refine blk_put (cs := #[.int .i32 0, .int .i64 0, .int .i64 0, .int .i64 0]) ?_ 0 _ rfl; (with_reducible repeat (first | refine blk_drewN ?_ _ | refine blk_drew ?_ | refine blk_alloc ?_ _)); exact BK159.out) Try.underlying53 rfl q5_12) rfl ?_
 exact ⟨by first | rfl | (simp [errW_none, errW_some] <;> rfl) | (simp [*, errW_none, errW_some] <;> rfl), by repeat (first | (with_reducible first | exact HB.out | apply below_alloc | apply pw_below_drewN | apply below_drew1 | refine below_set ?_ GE159.out) | exact HB.out)⟩

/-! ### batonlaw10_awake: function 46 -/
def batonlaw10_awake.j0 : Nat → Bool → Int → Int → List (S53) → Option (Bool)
 | 0, _, _, _, _ => none
 | k + 1, x13, x167000, x167001, x167002 => if x13 = true then (some false) else ((grid_Board_Put.f k x167000 x167001 x167002 0 0 97 0 0 0).bind fun bt168 => ((grid_Board_Put.f k bt168.2.1 bt168.2.2.1 bt168.2.2.2 1 0 98 0 0 0).bind fun bt174 => ((grid_Board_Put.f k bt174.2.1 bt174.2.2.1 bt174.2.2.2 2 0 99 0 0 0).bind fun bt180 => ((batonref10_Blank.f).bind fun bt186 => ((grid_Board_Up.f k bt180.2.1 bt180.2.2.1 bt180.2.2.2 0 1 1 bt186.1 bt186.2.1 bt186.2.2.1 bt186.2.2.2).bind fun bt190 => ((grid_Board_Grid.f bt190.1 bt190.2.1 bt190.2.2).bind fun bt195 => (if (bt195.2.2.1.length : Int) = 3 then (if 0 < (bt195.2.2.1.length : Int) then (if ((rd_T53 bt195.2.2.1 0).f0) = 98 then (if 1 < (bt195.2.2.1.length : Int) then (if ((rd_T53 bt195.2.2.1 1).f0) = 32 then (if 2 < (bt195.2.2.1.length : Int) then (some (((rd_T53 bt195.2.2.1 2).f0) == 99)) else (none)) else (some false)) else (none)) else (some false)) else (none)) else (some false))))))))
def batonlaw10_awake.f (k : Nat)  : Option (Bool) := (grid_New.f k 3 1).bind fun bt160 => (if bt160.1 = true then (if bt160.2.2.2.2 = 0 then (batonlaw10_awake.j0 k false bt160.2.1 bt160.2.2.1 bt160.2.2.2.1) else (batonlaw10_awake.j0 k true bt160.2.1 bt160.2.2.1 bt160.2.2.2.1)) else (if bt160.2.2.2.2 = 0 then (some false) else (some false)))
theorem batonlaw10_awake.mono_l : ∀ k, (∀ y0 y1 y2 y3, LeO (batonlaw10_awake.j0 k y0 y1 y2 y3) (batonlaw10_awake.j0 (k + 1) y0 y1 y2 y3))
 | 0 => fun _ _ _ _ r h => by simp [batonlaw10_awake.j0] at h
 | k + 1 => by
  have ih0 := batonlaw10_awake.mono_l k
  ·intro y0 y1 y2 y3
   unfold batonlaw10_awake.j0
   repeat' first
   | (with_reducible exact ih0 _ _ _ _)
   | (with_reducible exact grid_Board_Put.mono _ _ _ _ _ _ _ _ _ _)
   | (with_reducible exact grid_Board_Up.mono _ _ _ _ _ _ _ _ _ _ _)
   | (with_reducible exact grid_New.mono _ _ _)
   | (with_reducible exact LeO.refl _)
   | (with_reducible exact LeO.none _)
   | (with_reducible refine LeO.ite ?_ ?_)
   | (with_reducible refine LeO.bind ?_ (fun _ => ?_))
   | exact ih0 _ _ _ _
   | exact grid_Board_Put.mono _ _ _ _ _ _ _ _ _ _
   | exact grid_Board_Up.mono _ _ _ _ _ _ _ _ _ _ _
   | exact grid_New.mono _ _ _
   | exact LeO.none _
   | refine LeO.ite ?_ ?_
   | refine LeO.bind ?_ (fun _ => ?_)
theorem batonlaw10_awake.mono : ∀ k, LeO (batonlaw10_awake.f k ) (batonlaw10_awake.f (k + 1) ) := by
 intro  k
 have ih0 := batonlaw10_awake.mono_l k
 unfold batonlaw10_awake.f
 repeat' first
   | (with_reducible exact ih0 _ _ _ _)
   | (with_reducible exact grid_Board_Put.mono _ _ _ _ _ _ _ _ _ _)
   | (with_reducible exact grid_Board_Up.mono _ _ _ _ _ _ _ _ _ _ _)
   | (with_reducible exact grid_New.mono _ _ _)
   | (with_reducible exact LeO.refl _)
   | (with_reducible exact LeO.none _)
   | (with_reducible refine LeO.ite ?_ ?_)
   | (with_reducible refine LeO.bind ?_ (fun _ => ?_))
   | exact ih0 _ _ _ _
   | exact grid_Board_Put.mono _ _ _ _ _ _ _ _ _ _
   | exact grid_Board_Up.mono _ _ _ _ _ _ _ _ _ _ _
   | exact grid_New.mono _ _ _
   | exact LeO.none _
   | refine LeO.ite ?_ ?_
   | refine LeO.bind ?_ (fun _ => ?_)
set_option maxHeartbeats 8000000 in
set_option maxRecDepth 100000 in
theorem batonlaw10_awake.calls (k : Nat)  (r : Bool) (w : World) (h : batonlaw10_awake.f k  = some r) :
  Calls Try.prog 46 #[] w fun e w' => e = .returned (.bool r) ∧ Below w.heap.size w w' := by
 have hu53 := Try.underlying53
 have hu75 := Try.underlying75
 have HB := A5_ (Below.refl w.heap.size w)
 have H : ((grid_New.f k 3 1).bind fun bt160 => (if bt160.1 = true then (if bt160.2.2.2.2 = 0 then (batonlaw10_awake.j0 k false bt160.2.1 bt160.2.2.1 bt160.2.2.2.1) else (batonlaw10_awake.j0 k true bt160.2.1 bt160.2.2.1 bt160.2.2.2.1)) else (if bt160.2.2.2.2 = 0 then (some false) else (some false)))) = some r := h
 clear h
 replace H := Option.bind_eq_some_iff.mp H
 obtain ⟨⟨t160, t161, t162, t163, t167⟩, A10, H⟩ := H
 replace H : (if t160 = true then (if t167 = 0 then (batonlaw10_awake.j0 k false t161 t162 t163) else (batonlaw10_awake.j0 k true t161 t162 t163)) else (if t167 = 0 then (some false) else (some false))) = some r := H
 have A1 := A5_ A10
 clear A10
 by_cases c2 : t160 = true
 ·subst c2
  have H1 : (if t167 = 0 then (batonlaw10_awake.j0 k false t161 t162 t163) else (batonlaw10_awake.j0 k true t161 t162 t163)) = some r := by rw [if_pos rfl] at H; exact H
  clear H; have H := H1; clear H1
  have HC3 := A5_ H
  clear H
  go_enter Try.func46, Try.ntmps46
  go_upto_region 2 with (first | ((with_reducible refine gate_callee (f := 59) rfl ?_); refine goesL_ (some 5) rfl rfl Try.func59 q5_12 rfl #[.int .i64 3, .int .i64 1] rfl q5_2 ?_; (with_reducible refine (grid_New.calls k 3 1 true t161 t162 t163 t167 _ A1.out).mono ?_); rintro e w4 ⟨v164, gb166, rfl, ho0, hbn, hgn, hb⟩; refine ⟨_, rfl, ?_⟩; have n0_ := A5_ (Kd.R_lower ho0 (below_size q5_8)); have n1_ := A5_ (hbn rfl); have n2_ := A5_ ((Nat.le_trans (below_size q5_8) hgn : w.heap.size ≤ gb166)); have n3_ := A5_ ((Nat.le_trans (below_size q5_8) hgn : w.heap.size ≤ gb166)); have n4_ := A5_ (below_step q5_8 hb); clear HB; have HO165 := n0_; have BK166 := n1_; have GW166 := n2_; have GE166 := n3_; have HB := n4_; clear n0_ n1_ n2_ n3_ n4_; (try simp only [ptrW_true, ptrW_false]); (try clear hbn); (try clear hgn); (try clear hb); (try clear hb2); (try clear hk); (try clear hi); (try clear ho0)))
  (try simp only [Act.put, setIfInBounds_toArray, set_cons_zero, set_cons_succ])
  go_cut [13] (fun v13 wc => ∃ (kq : Nat) (x13_2 : Bool), v13 = .bool x13_2 ∧ Aside0 (batonlaw10_awake.j0 kq x13_2 t161 t162 t163 = some r) ∧ Aside0 (kq ≤ k) ∧ Aside0 (Kd.R k53 53 wc w.heap.size (fun _ => True) v164 t163) ∧ Aside0 (wc.heap[gb166]? = some (.cells #[.int .i64 t161, .int .i64 t162, v164] 112 (0, 0))) ∧ Aside0 (Below w.heap.size w wc))
  case first =>
   have H := HC3.out
   clear HC3
   by_cases c5 : t167 = 0
   ·rw [if_pos c5] at H
    have c5b0 : (t167 == 0) = true := beq_iff_eq.mpr c5
    have c5b1 : (t167 != 0) = false := bne_eq_false_iff_eq.mpr c5
    clear c5
    (first | rw [c5b0] | (simp only [i64_w, i32_w]; rw [c5b0]) | rw [c5b1] | rw [c5b2] | skip)
    have H' := A5_ H
    clear H
    go_wp2
    go_meet
    case rel => exact ⟨_, (false), (by first | rfl | (simp; done) | (simp [*]; done)), H', ⟨by first | omega | exact Nat.le_refl _⟩, ⟨by (with_reducible repeat (first | apply Kd.R_alloc | apply Kd.R_drewN | apply Kd.R_drew)); exact HO165.out⟩, ⟨by (with_reducible repeat (first | refine blk_drewN ?_ _ | refine blk_drew ?_ | refine blk_alloc ?_ _)); exact BK166.out⟩, ⟨by repeat (first | (with_reducible first | exact HB.out | apply below_alloc | apply pw_below_drewN | apply below_drew1 | refine below_set ?_ GE166.out) | exact HB.out)⟩⟩
   ·rw [if_neg c5] at H
    have c5b0 : (t167 == 0) = false := beq_eq_false_iff_ne.mpr c5
    have c5b1 : (t167 != 0) = true := bne_iff_ne.mpr c5
    (first | rw [c5b0] | (simp only [i64_w, i32_w]; rw [c5b0]) | rw [c5b1] | rw [c5b2] | skip)
    have H' := A5_ H
    clear H
    go_wp2
    go_meet
    case rel => exact ⟨_, (true), (by first | rfl | (simp; done) | (simp [*]; done)), H', ⟨by first | omega | exact Nat.le_refl _⟩, ⟨by (with_reducible repeat (first | apply Kd.R_alloc | apply Kd.R_drewN | apply Kd.R_drew)); exact HO165.out⟩, ⟨by (with_reducible repeat (first | refine blk_drewN ?_ _ | refine blk_drew ?_ | refine blk_alloc ?_ _)); exact BK166.out⟩, ⟨by repeat (first | (with_reducible first | exact HB.out | apply below_alloc | apply pw_below_drewN | apply below_drew1 | refine below_set ?_ GE166.out) | exact HB.out)⟩⟩
  case rest =>
   clear HC3
   try clear c2
   try clear p2
   try clear c4
   try clear c5
   try clear c5b0
   try clear c5b1
   try clear c5b2
   obtain ⟨kq, x13_2, rfl, HA, HJ2, HO_167002, BK166, HB⟩ := hcut
   cases kq with
   | zero => exact absurd HA.out (by simp [batonlaw10_awake.j0])
   | succ kj2 =>
    have H := HA.out
    clear HA
    simp only [batonlaw10_awake.j0] at H
    by_cases c6 : x13_2 = true
    ·subst c6
     have H1 : (some false) = some r := by rw [if_pos rfl] at H; exact H
     clear H; have H := H1; clear H1
     obtain rfl := Option.some.inj H
     go_wp2
     go_ret
     exact ⟨by first | rfl | (simp [errW_none, errW_some] <;> rfl) | (simp [*, errW_none, errW_some] <;> rfl), by repeat (first | (with_reducible first | exact HB.out | apply below_alloc | apply pw_below_drewN | apply below_drew1 | refine below_set ?_ GE166.out) | exact HB.out)⟩
    ·replace c6 := Bool.eq_false_iff.mpr c6
     subst c6
     have H1 : ((grid_Board_Put.f kj2 t161 t162 t163 0 0 97 0 0 0).bind fun bt168 => ((grid_Board_Put.f kj2 bt168.2.1 bt168.2.2.1 bt168.2.2.2 1 0 98 0 0 0).bind fun bt174 => ((grid_Board_Put.f kj2 bt174.2.1 bt174.2.2.1 bt174.2.2.2 2 0 99 0 0 0).bind fun bt180 => ((batonref10_Blank.f).bind fun bt186 => ((grid_Board_Up.f kj2 bt180.2.1 bt180.2.2.1 bt180.2.2.2 0 1 1 bt186.1 bt186.2.1 bt186.2.2.1 bt186.2.2.2).bind fun bt190 => ((grid_Board_Grid.f bt190.1 bt190.2.1 bt190.2.2).bind fun bt195 => (if (bt195.2.2.1.length : Int) = 3 then (if 0 < (bt195.2.2.1.length : Int) then (if ((rd_T53 bt195.2.2.1 0).f0) = 98 then (if 1 < (bt195.2.2.1.length : Int) then (if ((rd_T53 bt195.2.2.1 1).f0) = 32 then (if 2 < (bt195.2.2.1.length : Int) then (some (((rd_T53 bt195.2.2.1 2).f0) == 99)) else (none)) else (some false)) else (none)) else (some false)) else (none)) else (some false)))))))) = some r := by rw [if_neg (show ¬ (false = true) by decide)] at H; exact H
     clear H; have H := H1; clear H1
     replace H := Option.bind_eq_some_iff.mp H
     obtain ⟨⟨t168, t169, t170, t171⟩, A70, H⟩ := H
     replace H : ((grid_Board_Put.f kj2 t169 t170 t171 1 0 98 0 0 0).bind fun bt174 => ((grid_Board_Put.f kj2 bt174.2.1 bt174.2.2.1 bt174.2.2.2 2 0 99 0 0 0).bind fun bt180 => ((batonref10_Blank.f).bind fun bt186 => ((grid_Board_Up.f kj2 bt180.2.1 bt180.2.2.1 bt180.2.2.2 0 1 1 bt186.1 bt186.2.1 bt186.2.2.1 bt186.2.2.2).bind fun bt190 => ((grid_Board_Grid.f bt190.1 bt190.2.1 bt190.2.2).bind fun bt195 => (if (bt195.2.2.1.length : Int) = 3 then (if 0 < (bt195.2.2.1.length : Int) then (if ((rd_T53 bt195.2.2.1 0).f0) = 98 then (if 1 < (bt195.2.2.1.length : Int) then (if ((rd_T53 bt195.2.2.1 1).f0) = 32 then (if 2 < (bt195.2.2.1.length : Int) then (some (((rd_T53 bt195.2.2.1 2).f0) == 99)) else (none)) else (some false)) else (none)) else (some false)) else (none)) else (some false))))))) = some r := H
     have A7 := A5_ A70
     clear A70
     replace H := Option.bind_eq_some_iff.mp H
     obtain ⟨⟨t174, t175, t176, t177⟩, A80, H⟩ := H
     replace H : ((grid_Board_Put.f kj2 t175 t176 t177 2 0 99 0 0 0).bind fun bt180 => ((batonref10_Blank.f).bind fun bt186 => ((grid_Board_Up.f kj2 bt180.2.1 bt180.2.2.1 bt180.2.2.2 0 1 1 bt186.1 bt186.2.1 bt186.2.2.1 bt186.2.2.2).bind fun bt190 => ((grid_Board_Grid.f bt190.1 bt190.2.1 bt190.2.2).bind fun bt195 => (if (bt195.2.2.1.length : Int) = 3 then (if 0 < (bt195.2.2.1.length : Int) then (if ((rd_T53 bt195.2.2.1 0).f0) = 98 then (if 1 < (bt195.2.2.1.length : Int) then (if ((rd_T53 bt195.2.2.1 1).f0) = 32 then (if 2 < (bt195.2.2.1.length : Int) then (some (((rd_T53 bt195.2.2.1 2).f0) == 99)) else (none)) else (some false)) else (none)) else (some false)) else (none)) else (some false)))))) = some r := H
     have A8 := A5_ A80
     clear A80
     replace H := Option.bind_eq_some_iff.mp H
     obtain ⟨⟨t180, t181, t182, t183⟩, A90, H⟩ := H
     replace H : ((batonref10_Blank.f).bind fun bt186 => ((grid_Board_Up.f kj2 t181 t182 t183 0 1 1 bt186.1 bt186.2.1 bt186.2.2.1 bt186.2.2.2).bind fun bt190 => ((grid_Board_Grid.f bt190.1 bt190.2.1 bt190.2.2).bind fun bt195 => (if (bt195.2.2.1.length : Int) = 3 then (if 0 < (bt195.2.2.1.length : Int) then (if ((rd_T53 bt195.2.2.1 0).f0) = 98 then (if 1 < (bt195.2.2.1.length : Int) then (if ((rd_T53 bt195.2.2.1 1).f0) = 32 then (if 2 < (bt195.2.2.1.length : Int) then (some (((rd_T53 bt195.2.2.1 2).f0) == 99)) else (none)) else (some false)) else (none)) else (some false)) else (none)) else (some false))))) = some r := H
     have A9 := A5_ A90
     clear A90
     replace H := Option.bind_eq_some_iff.mp H
     obtain ⟨⟨t186, t187, t188, t189⟩, A100, H⟩ := H
     replace H : ((grid_Board_Up.f kj2 t181 t182 t183 0 1 1 t186 t187 t188 t189).bind fun bt190 => ((grid_Board_Grid.f bt190.1 bt190.2.1 bt190.2.2).bind fun bt195 => (if (bt195.2.2.1.length : Int) = 3 then (if 0 < (bt195.2.2.1.length : Int) then (if ((rd_T53 bt195.2.2.1 0).f0) = 98 then (if 1 < (bt195.2.2.1.length : Int) then (if ((rd_T53 bt195.2.2.1 1).f0) = 32 then (if 2 < (bt195.2.2.1.length : Int) then (some (((rd_T53 bt195.2.2.1 2).f0) == 99)) else (none)) else (some false)) else (none)) else (some false)) else (none)) else (some false)))) = some r := H
     have A10 := A5_ A100
     clear A100
     replace H := Option.bind_eq_some_iff.mp H
     obtain ⟨⟨t190, t191, t192⟩, A110, H⟩ := H
     replace H : ((grid_Board_Grid.f t190 t191 t192).bind fun bt195 => (if (bt195.2.2.1.length : Int) = 3 then (if 0 < (bt195.2.2.1.length : Int) then (if ((rd_T53 bt195.2.2.1 0).f0) = 98 then (if 1 < (bt195.2.2.1.length : Int) then (if ((rd_T53 bt195.2.2.1 1).f0) = 32 then (if 2 < (bt195.2.2.1.length : Int) then (some (((rd_T53 bt195.2.2.1 2).f0) == 99)) else (none)) else (some false)) else (none)) else (some false)) else (none)) else (some false))) = some r := H
     have A11 := A5_ A110
     clear A110
     replace H := Option.bind_eq_some_iff.mp H
     obtain ⟨⟨t195, t196, t197, t200, t201, t202⟩, A120, H⟩ := H
     replace H : (if (t197.length : Int) = 3 then (if 0 < (t197.length : Int) then (if ((rd_T53 t197 0).f0) = 98 then (if 1 < (t197.length : Int) then (if ((rd_T53 t197 1).f0) = 32 then (if 2 < (t197.length : Int) then (some (((rd_T53 t197 2).f0) == 99)) else (none)) else (some false)) else (none)) else (some false)) else (none)) else (some false)) = some r := H
     have A12 := A5_ A120
     clear A120
     by_cases c13 : (t197.length : Int) = 3
     ·rw [if_pos c13] at H
      have c13b0 : ((t197.length : Int) == 3) = true := beq_iff_eq.mpr c13
      have c13b1 : ((t197.length : Int) != 3) = false := bne_eq_false_iff_eq.mpr c13
      clear c13
      by_cases c14 : 0 < (t197.length : Int)
      ·rw [if_pos c14] at H
       have c14b0 : decide (0 < (t197.length : Int)) = true := decide_eq_true c14
       have c14b1 : decide (0 < t197.length) = true := decide_eq_true q5_20
       clear c14
       by_cases c15 : ((rd_T53 t197 0).f0) = 98
       ·rw [if_pos c15] at H
        have c15b0 : (((rd_T53 t197 0).f0) == 98) = true := beq_iff_eq.mpr c15
        have c15b1 : (((rd_T53 t197 0).f0) != 98) = false := bne_eq_false_iff_eq.mpr c15
        clear c15
        by_cases c16 : 1 < (t197.length : Int)
        ·rw [if_pos c16] at H
         have c16b0 : decide (1 < (t197.length : Int)) = true := decide_eq_true c16
         have c16b1 : decide (1 < t197.length) = true := decide_eq_true q5_20
         clear c16
         by_cases c17 : ((rd_T53 t197 1).f0) = 32
         ·rw [if_pos c17] at H
          have c17b0 : (((rd_T53 t197 1).f0) == 32) = true := beq_iff_eq.mpr c17
          have c17b1 : (((rd_T53 t197 1).f0) != 32) = false := bne_eq_false_iff_eq.mpr c17
          clear c17
          by_cases c18 : 2 < (t197.length : Int)
          ·rw [if_pos c18] at H
           have c18b0 : decide (2 < (t197.length : Int)) = true := decide_eq_true c18
           have c18b1 : decide (2 < t197.length) = true := decide_eq_true q5_20
           clear c18
           obtain rfl := Option.some.inj H
           obtain ⟨Ao19, co19, eo19⟩ := Kd.R_slice HO_167002.out
           subst eo19
           go_wp2_with (first | ((with_reducible refine gate_callee (f := 72) rfl ?_); refine goesL_ (some 16) rfl rfl Try.func72 q5_12 rfl #[.pointer (some ⟨gb166, 0, none⟩), .int .i64 0, .int .i64 0, .agg #[.int .i32 97, .int .i64 0, .int .i64 0, .int .i64 0]] rfl q5_2 ?_; (with_reducible refine (grid_Board_Put.calls kj2 gb166 t161 t162 (fun k_ => some k_ = (.slice Ao19 t163.length co19 : Value).ownBlock) (.slice Ao19 t163.length co19) t163 0 0 97 0 0 0 t168 t169 t170 t171 w _ ?side2 ?side3 ?side1 ?side4 A7.out).mono ?_); (case side1 => repeat (first | (with_reducible first | exact HB.out | apply below_alloc | apply pw_below_drewN | apply below_drew1 | refine below_set ?_ GE166.out) | exact HB.out)); (case side2 => (with_reducible repeat (first | refine blk_drewN ?_ _ | refine blk_drew ?_ | refine blk_alloc ?_ _)); exact BK166.out); (case side3 => exact GE166.out); (case side4 => exact Kd.R_tight rfl HO_167002.out); rintro e w20 ⟨v172, rfl, ho0, hbx, hb, hkp⟩; refine ⟨_, rfl, ?_⟩; have n0_ := A5_ (hbx); have n1_ := A5_ (Kd.R_mono (ok' := fun k_ => True) ho0 (fun k_ hk_ => trivial)); have n2_ := A5_ (hb); clear BK166 HB HO_167002; have BK166 := n0_; have HO173 := n1_; have HB := n2_; clear n0_ n1_ n2_; (try clear hbx); (try clear hbn); (try clear hgn); (try clear hb); (try clear hkp); (try clear ho0); obtain ⟨Ao21, co21, eo21⟩ := Kd.R_slice HO173.out; subst eo21) | ((with_reducible refine gate_callee (f := 72) rfl ?_); refine goesL_ (some 19) rfl rfl Try.func72 q5_12 rfl #[.pointer (some ⟨gb166, 0, none⟩), .int .i64 1, .int .i64 0, .agg #[.int .i32 98, .int .i64 0, .int .i64 0, .int .i64 0]] rfl q5_2 ?_; (with_reducible refine (grid_Board_Put.calls kj2 gb166 t169 t170 (fun k_ => some k_ = (.slice Ao21 t171.length co21 : Value).ownBlock) (.slice Ao21 t171.length co21) t171 1 0 98 0 0 0 t174 t175 t176 t177 w _ ?side2 ?side3 ?side1 ?side4 A8.out).mono ?_); (case side1 => repeat (first | (with_reducible first | exact HB.out | apply below_alloc | apply pw_below_drewN | apply below_drew1 | refine below_set ?_ GE166.out) | exact HB.out)); (case side2 => (with_reducible repeat (first | refine blk_drewN ?_ _ | refine blk_drew ?_ | refine blk_alloc ?_ _)); exact BK166.out); (case side3 => exact GE166.out); (case side4 => exact Kd.R_tight rfl HO173.out); rintro e w22 ⟨v178, rfl, ho0, hbx, hb, hkp⟩; refine ⟨_, rfl, ?_⟩; have n0_ := A5_ (hbx); have n1_ := A5_ (Kd.R_mono (ok' := fun k_ => True) ho0 (fun k_ hk_ => trivial)); have n2_ := A5_ (hb); clear BK166 HB HO173; have BK166 := n0_; have HO179 := n1_; have HB := n2_; clear n0_ n1_ n2_; (try clear hbx); (try clear hbn); (try clear hgn); (try clear hb); (try clear hkp); (try clear ho0); obtain ⟨Ao23, co23, eo23⟩ := Kd.R_slice HO179.out; subst eo23) | ((with_reducible refine gate_callee (f := 72) rfl ?_); refine goesL_ (some 22) rfl rfl Try.func72 q5_12 rfl #[.pointer (some ⟨gb166, 0, none⟩), .int .i64 2, .int .i64 0, .agg #[.int .i32 99, .int .i64 0, .int .i64 0, .int .i64 0]] rfl q5_2 ?_; (with_reducible refine (grid_Board_Put.calls kj2 gb166 t175 t176 (fun k_ => some k_ = (.slice Ao23 t177.length co23 : Value).ownBlock) (.slice Ao23 t177.length co23) t177 2 0 99 0 0 0 t180 t181 t182 t183 w _ ?side2 ?side3 ?side1 ?side4 A9.out).mono ?_); (case side1 => repeat (first | (with_reducible first | exact HB.out | apply below_alloc | apply pw_below_drewN | apply below_drew1 | refine below_set ?_ GE166.out) | exact HB.out)); (case side2 => (with_reducible repeat (first | refine blk_drewN ?_ _ | refine blk_drew ?_ | refine blk_alloc ?_ _)); exact BK166.out); (case side3 => exact GE166.out); (case side4 => exact Kd.R_tight rfl HO179.out); rintro e w24 ⟨v184, rfl, ho0, hbx, hb, hkp⟩; refine ⟨_, rfl, ?_⟩; have n0_ := A5_ (hbx); have n1_ := A5_ (Kd.R_mono (ok' := fun k_ => True) ho0 (fun k_ hk_ => trivial)); have n2_ := A5_ (hb); clear BK166 HB HO179; have BK166 := n0_; have HO185 := n1_; have HB := n2_; clear n0_ n1_ n2_; (try clear hbx); (try clear hbn); (try clear hgn); (try clear hb); (try clear hkp); (try clear ho0)) | ((with_reducible refine gate_callee (f := 74) rfl ?_); refine goesL_ (some 24) rfl rfl Try.func74 q5_12 rfl #[] rfl q5_2 ?_; (with_reducible refine (batonref10_Blank.calls  t186 t187 t188 t189 _ A10.out).mono ?_); rintro e w25 ⟨rfl, hb⟩; refine ⟨_, rfl, ?_⟩; have n0_ := A5_ (Kd.R_below q5_18 hb); have n1_ := A5_ (blk_below (g := gb166) (o := .cells #[.int .i64 t181, .int .i64 t182, v184] 112 (0, 0)) q5_4 hb); have n2_ := A5_ (below_step q5_3 hb); clear HO185 BK166 HB; have HO185 := n0_; have BK166 := n1_; have HB := n2_; clear n0_ n1_ n2_; (try clear hb); (try clear hb2); (try clear hk); (try clear hi); obtain ⟨Ao26, co26, eo26⟩ := Kd.R_slice HO185.out; subst eo26) | ((with_reducible refine gate_callee (f := 73) rfl ?_); refine goesL_ (some 25) rfl rfl Try.func73 q5_12 rfl #[.pointer (some ⟨gb166, 0, none⟩), .int .i64 0, .int .i64 1, .int .i64 1, .agg #[.int .i32 t186, .int .i64 t187, .int .i64 t188, .int .i64 t189]] rfl q5_2 ?_; (with_reducible refine (grid_Board_Up.calls kj2 gb166 t181 t182 (fun k_ => some k_ = (.slice Ao26 t183.length co26 : Value).ownBlock) (.slice Ao26 t183.length co26) t183 0 1 1 t186 t187 t188 t189 t190 t191 t192 w _ ?side2 ?side3 ?side1 ?side4 A11.out).mono ?_); (case side1 => repeat (first | (with_reducible first | exact HB.out | apply below_alloc | apply pw_below_drewN | apply below_drew1 | refine below_set ?_ GE166.out) | exact HB.out)); (case side2 => (with_reducible repeat (first | refine blk_drewN ?_ _ | refine blk_drew ?_ | refine blk_alloc ?_ _)); exact BK166.out); (case side3 => exact GE166.out); (case side4 => exact Kd.R_tight rfl HO185.out); rintro e w27 ⟨v193, rfl, ho0, hbx, hb, hkp⟩; refine ⟨_, rfl, ?_⟩; have n0_ := A5_ (hbx); have n1_ := A5_ (Kd.R_mono (ok' := fun k_ => True) ho0 (fun k_ hk_ => trivial)); have n2_ := A5_ (hb); clear BK166 HB HO185; have BK166 := n0_; have HO194 := n1_; have HB := n2_; clear n0_ n1_ n2_; (try clear hbx); (try clear hbn); (try clear hgn); (try clear hb); (try clear hkp); (try clear ho0); obtain ⟨Ao28, co28, eo28⟩ := Kd.R_slice HO194.out; subst eo28) | ((with_reducible refine gate_callee (f := 49) rfl ?_); refine goesL_ (some 27) rfl rfl Try.func49 q5_12 rfl #[.pointer (some ⟨gb166, 0, none⟩)] rfl q5_2 ?_; (with_reducible refine (grid_Board_Grid.calls gb166 t190 t191 (fun k_ => some k_ = (.slice Ao28 t192.length co28 : Value).ownBlock) (.slice Ao28 t192.length co28) t192 t195 t196 t197 t200 t201 t202 w _ ?side2 ?side3 ?side1 ?side4 A12.out).mono ?_); (case side1 => repeat (first | (with_reducible first | exact HB.out | apply below_alloc | apply pw_below_drewN | apply below_drew1 | refine below_set ?_ GE166.out) | exact HB.out)); (case side2 => (with_reducible repeat (first | refine blk_drewN ?_ _ | refine blk_drew ?_ | refine blk_alloc ?_ _)); exact BK166.out); (case side3 => exact GE166.out); (case side4 => exact Kd.R_tight rfl HO194.out); rintro e w29 ⟨v198, v203, rfl, ho0, ho1, hbx, hb, hkp⟩; refine ⟨_, rfl, ?_⟩; have n0_ := A5_ (hbx); have n1_ := A5_ (Kd.R_mono (ok' := fun k_ => some k_ ≠ (v203 : Value).ownBlock) ho0 (fun k_ hk_ => hk_.2)); have n2_ := A5_ (Kd.R_mono (ok' := fun k_ => some k_ ≠ (v198 : Value).ownBlock) ho1 (fun k_ hk_ => hk_.2)); have n3_ := A5_ (hb); clear BK166 HB HO194; have BK166 := n0_; have HO199 := n1_; have HO204 := n2_; have HB := n3_; clear n0_ n1_ n2_ n3_; (try clear hbx); (try clear hbn); (try clear hgn); (try clear hb); (try clear hkp); (try clear ho0); (try clear ho1)) | ((with_reducible refine gate_dst (N := 3) rfl ?_); refine box_event ?hg (N := 3) ?hd (cs := #[.int .i64 0, .int .i64 0, .slice none 0 0]) (t := 75) ?hr ?_; (case hd => rfl); (case hg => rfl); (case hr => first | (go_simp; done) | (go_simp; rfl)); intro gb205 hg w30 hbox hb; have n0_ := A5_ (Kd.R_below q5_17 hb); have n1_ := A5_ (Kd.R_below q5_16 hb); have n2_ := A5_ (blk_below (g := gb166) (o := .cells #[.int .i64 t200, .int .i64 t201, v203] 112 (0, 0)) q5_4 hb); have n3_ := A5_ (below_step q5_3 hb); have n4_ := A5_ (hbox); have n5_ := A5_ ((by rw [hg]; exact (below_size q5_3) : w.heap.size ≤ gb205)); have n6_ := A5_ ((by rw [hg]; exact (below_size q5_3) : w.heap.size ≤ gb205)); have n7_ := A5_ ((by rw [hg]; exact Nat.ne_of_lt (blk_lt (g := gb166) (o := .cells #[.int .i64 t200, .int .i64 t201, v203] 112 (0, 0)) q5_4) : gb166 ≠ gb205)); have n8_ := A5_ ((by rw [hg]; exact Nat.ne_of_gt (blk_lt (g := gb166) (o := .cells #[.int .i64 t200, .int .i64 t201, v203] 112 (0, 0)) q5_4) : gb205 ≠ gb166)); clear HO199 HO204 BK166 HB; have HO199 := n0_; have HO204 := n1_; have BK166 := n2_; have HB := n3_; have BK205 := n4_; have GW205 := n5_; have GE205 := n6_; have NB166_205 := n7_; have NB205_166 := n8_; clear n0_ n1_ n2_ n3_ n4_ n5_ n6_ n7_ n8_; clear hb hbox hg; have hnb31 := NB205_166.out; have hnc31 := NB166_205.out; have hcz32_0 : w30.cell? ⟨gb205, 0, none⟩ = some (.int .i64 0) := (blk_cell BK205.out 0).trans rfl; have hcz32_1 : w30.cell? ⟨gb205, 1, none⟩ = some (.int .i64 0) := (blk_cell BK205.out 1).trans rfl; have hcz32_2 : w30.cell? ⟨gb205, 2, none⟩ = some (.slice none 0 0) := (blk_cell BK205.out 2).trans rfl; have hfz32_0 := blk_frozen BK205.out 0; have hfz32_1 := blk_frozen BK205.out 1; have hfz32_2 := blk_frozen BK205.out 2; obtain ⟨Ao33, co33, eo33⟩ := Kd.R_slice HO199.out; subst eo33; have p206 : 0 ≤ (0 : Int) := q5_20; have q206 : 0 < (t197.length : Int) := of_decide_eq_true q5_19; obtain ⟨ad206, e206, hx206_0, hx206_1, hx206_2, hx206_3⟩ := at_T53 (Kd.R_reads' HO199.out).2.2 0 p206 q206; cases e206; have qi206 : (0 < t197.length) = True := eq_true q5_20; (try rw [show ((0 : Int)).toNat = 0 from rfl] at hx206_0); (try rw [show 0 * 4 = 0 from rfl] at hx206_0); (try rw [Addr.add_zero'] at hx206_0); (try rw [show ((0 : Int)).toNat = 0 from rfl] at hx206_1); (try rw [show 0 * 4 = 0 from rfl] at hx206_1); (try rw [Addr.add_zero'] at hx206_1); (try rw [show ((0 : Int)).toNat = 0 from rfl] at hx206_2); (try rw [show 0 * 4 = 0 from rfl] at hx206_2); (try rw [Addr.add_zero'] at hx206_2); (try rw [show ((0 : Int)).toNat = 0 from rfl] at hx206_3); (try rw [show 0 * 4 = 0 from rfl] at hx206_3); (try rw [Addr.add_zero'] at hx206_3); have hn206_0 : ad206.block ≠ gb205 := Kd.own_blk (Kd.R_ne HO199.out BK205.out (by decide)); have hn206_1 : ad206.block ≠ gb205 := Kd.own_blk (Kd.R_ne HO199.out BK205.out (by decide)); have hn206_2 : ad206.block ≠ gb205 := Kd.own_blk (Kd.R_ne HO199.out BK205.out (by decide)); replace hx206_0 := (cell_far (p := ⟨gb205, 0, none⟩) q5_7 (.int .i64 t195)).trans hx206_0; replace hx206_1 := (cell_far (p := ⟨gb205, 0, none⟩) q5_7 (.int .i64 t195)).trans hx206_1; replace hx206_2 := (cell_far (p := ⟨gb205, 0, none⟩) q5_7 (.int .i64 t195)).trans hx206_2; replace hx206_3 := (cell_far (p := ⟨gb205, 0, none⟩) q5_7 (.int .i64 t195)).trans hx206_3; replace hx206_0 := (cell_far (p := ⟨gb205, 1, none⟩) q5_6 (.int .i64 t196)).trans hx206_0; replace hx206_1 := (cell_far (p := ⟨gb205, 1, none⟩) q5_6 (.int .i64 t196)).trans hx206_1; replace hx206_2 := (cell_far (p := ⟨gb205, 1, none⟩) q5_6 (.int .i64 t196)).trans hx206_2; replace hx206_3 := (cell_far (p := ⟨gb205, 1, none⟩) q5_6 (.int .i64 t196)).trans hx206_3; replace hx206_0 := (cell_far (p := ⟨gb205, 2, none⟩) q5_5 (.slice (some ad206) t197.length co33)).trans hx206_0; replace hx206_1 := (cell_far (p := ⟨gb205, 2, none⟩) q5_5 (.slice (some ad206) t197.length co33)).trans hx206_1; replace hx206_2 := (cell_far (p := ⟨gb205, 2, none⟩) q5_5 (.slice (some ad206) t197.length co33)).trans hx206_2; replace hx206_3 := (cell_far (p := ⟨gb205, 2, none⟩) q5_5 (.slice (some ad206) t197.length co33)).trans hx206_3; clear hn206_0 hn206_1 hn206_2; replace p206 := eq_true p206; replace q206 := eq_true q206; have p207 : 0 ≤ (1 : Int) := q5_20; have q207 : 1 < (t197.length : Int) := of_decide_eq_true q5_19; obtain ⟨ad207, e207, hx207_0, hx207_1, hx207_2, hx207_3⟩ := at_T53 (Kd.R_reads' HO199.out).2.2 1 p207 q207; obtain rfl : ad206 = ad207 := (by injection e207); (try simp only [show (1 : Int).toNat = 1 from rfl, Nat.reduceMul, Nat.reduceEqDiff, Go.Addr.add, ↓reduceIte] at hx207_0); (try simp only [show (1 : Int).toNat = 1 from rfl, Nat.reduceMul, Nat.reduceEqDiff, Go.Addr.add, ↓reduceIte] at hx207_1); (try simp only [show (1 : Int).toNat = 1 from rfl, Nat.reduceMul, Nat.reduceEqDiff, Go.Addr.add, ↓reduceIte] at hx207_2); (try simp only [show (1 : Int).toNat = 1 from rfl, Nat.reduceMul, Nat.reduceEqDiff, Go.Addr.add, ↓reduceIte] at hx207_3); have qi207 : (1 < t197.length) = True := eq_true q5_20; (try rw [show ((1 : Int)).toNat = 1 from rfl] at hx207_0); (try rw [show 1 * 4 = 4 from rfl] at hx207_0); (try rw [show ((1 : Int)).toNat = 1 from rfl] at hx207_1); (try rw [show 1 * 4 = 4 from rfl] at hx207_1); (try rw [show ((1 : Int)).toNat = 1 from rfl] at hx207_2); (try rw [show 1 * 4 = 4 from rfl] at hx207_2); (try rw [show ((1 : Int)).toNat = 1 from rfl] at hx207_3); (try rw [show 1 * 4 = 4 from rfl] at hx207_3); have hn207_0 : ad206.block ≠ gb205 := Kd.own_blk (Kd.R_ne HO199.out BK205.out (by decide)); have hn207_1 : ad206.block ≠ gb205 := Kd.own_blk (Kd.R_ne HO199.out BK205.out (by decide)); have hn207_2 : ad206.block ≠ gb205 := Kd.own_blk (Kd.R_ne HO199.out BK205.out (by decide)); replace hx207_0 := (cell_far (p := ⟨gb205, 0, none⟩) q5_11 (.int .i64 t195)).trans hx207_0; replace hx207_1 := (cell_far (p := ⟨gb205, 0, none⟩) q5_11 (.int .i64 t195)).trans hx207_1; replace hx207_2 := (cell_far (p := ⟨gb205, 0, none⟩) q5_11 (.int .i64 t195)).trans hx207_2; replace hx207_3 := (cell_far (p := ⟨gb205, 0, none⟩) q5_11 (.int .i64 t195)).trans hx207_3; replace hx207_0 := (cell_far (p := ⟨gb205, 1, none⟩) q5_10 (.int .i64 t196)).trans hx207_0; replace hx207_1 := (cell_far (p := ⟨gb205, 1, none⟩) q5_10 (.int .i64 t196)).trans hx207_1; replace hx207_2 := (cell_far (p := ⟨gb205, 1, none⟩) q5_10 (.int .i64 t196)).trans hx207_2; replace hx207_3 := (cell_far (p := ⟨gb205, 1, none⟩) q5_10 (.int .i64 t196)).trans hx207_3; replace hx207_0 := (cell_far (p := ⟨gb205, 2, none⟩) q5_9 (.slice (some ad206) t197.length co33)).trans hx207_0; replace hx207_1 := (cell_far (p := ⟨gb205, 2, none⟩) q5_9 (.slice (some ad206) t197.length co33)).trans hx207_1; replace hx207_2 := (cell_far (p := ⟨gb205, 2, none⟩) q5_9 (.slice (some ad206) t197.length co33)).trans hx207_2; replace hx207_3 := (cell_far (p := ⟨gb205, 2, none⟩) q5_9 (.slice (some ad206) t197.length co33)).trans hx207_3; clear hn207_0 hn207_1 hn207_2; replace p207 := eq_true p207; replace q207 := eq_true q207; have p208 : 0 ≤ (2 : Int) := q5_20; have q208 : 2 < (t197.length : Int) := of_decide_eq_true q5_19; obtain ⟨ad208, e208, hx208_0, hx208_1, hx208_2, hx208_3⟩ := at_T53 (Kd.R_reads' HO199.out).2.2 2 p208 q208; obtain rfl : ad206 = ad208 := (by injection e208); (try simp only [show (2 : Int).toNat = 2 from rfl, Nat.reduceMul, Nat.reduceEqDiff, Go.Addr.add, ↓reduceIte] at hx208_0); (try simp only [show (2 : Int).toNat = 2 from rfl, Nat.reduceMul, Nat.reduceEqDiff, Go.Addr.add, ↓reduceIte] at hx208_1); (try simp only [show (2 : Int).toNat = 2 from rfl, Nat.reduceMul, Nat.reduceEqDiff, Go.Addr.add, ↓reduceIte] at hx208_2); (try simp only [show (2 : Int).toNat = 2 from rfl, Nat.reduceMul, Nat.reduceEqDiff, Go.Addr.add, ↓reduceIte] at hx208_3); have qi208 : (2 < t197.length) = True := eq_true q5_20; (try rw [show ((2 : Int)).toNat = 2 from rfl] at hx208_0); (try rw [show 2 * 4 = 8 from rfl] at hx208_0); (try rw [show ((2 : Int)).toNat = 2 from rfl] at hx208_1); (try rw [show 2 * 4 = 8 from rfl] at hx208_1); (try rw [show ((2 : Int)).toNat = 2 from rfl] at hx208_2); (try rw [show 2 * 4 = 8 from rfl] at hx208_2); (try rw [show ((2 : Int)).toNat = 2 from rfl] at hx208_3); (try rw [show 2 * 4 = 8 from rfl] at hx208_3); have hn208_0 : ad206.block ≠ gb205 := Kd.own_blk (Kd.R_ne HO199.out BK205.out (by decide)); have hn208_1 : ad206.block ≠ gb205 := Kd.own_blk (Kd.R_ne HO199.out BK205.out (by decide)); have hn208_2 : ad206.block ≠ gb205 := Kd.own_blk (Kd.R_ne HO199.out BK205.out (by decide)); replace hx208_0 := (cell_far (p := ⟨gb205, 0, none⟩) q5_15 (.int .i64 t195)).trans hx208_0; replace hx208_1 := (cell_far (p := ⟨gb205, 0, none⟩) q5_15 (.int .i64 t195)).trans hx208_1; replace hx208_2 := (cell_far (p := ⟨gb205, 0, none⟩) q5_15 (.int .i64 t195)).trans hx208_2; replace hx208_3 := (cell_far (p := ⟨gb205, 0, none⟩) q5_15 (.int .i64 t195)).trans hx208_3; replace hx208_0 := (cell_far (p := ⟨gb205, 1, none⟩) q5_14 (.int .i64 t196)).trans hx208_0; replace hx208_1 := (cell_far (p := ⟨gb205, 1, none⟩) q5_14 (.int .i64 t196)).trans hx208_1; replace hx208_2 := (cell_far (p := ⟨gb205, 1, none⟩) q5_14 (.int .i64 t196)).trans hx208_2; replace hx208_3 := (cell_far (p := ⟨gb205, 1, none⟩) q5_14 (.int .i64 t196)).trans hx208_3; replace hx208_0 := (cell_far (p := ⟨gb205, 2, none⟩) q5_13 (.slice (some ad206) t197.length co33)).trans hx208_0; replace hx208_1 := (cell_far (p := ⟨gb205, 2, none⟩) q5_13 (.slice (some ad206) t197.length co33)).trans hx208_1; replace hx208_2 := (cell_far (p := ⟨gb205, 2, none⟩) q5_13 (.slice (some ad206) t197.length co33)).trans hx208_2; replace hx208_3 := (cell_far (p := ⟨gb205, 2, none⟩) q5_13 (.slice (some ad206) t197.length co33)).trans hx208_3; clear hn208_0 hn208_1 hn208_2; replace p208 := eq_true p208; replace q208 := eq_true q208))
           go_ret
           exact ⟨by first | rfl | (simp [errW_none, errW_some] <;> rfl) | (simp [*, errW_none, errW_some] <;> rfl), by repeat (first | (with_reducible first | exact HB.out | apply below_alloc | apply pw_below_drewN | apply below_drew1 | refine below_set ?_ GE166.out | refine below_set ?_ GE205.out) | exact HB.out)⟩
          ·rw [if_neg c18] at H
           exact absurd H (by simp)
         ·rw [if_neg c17] at H
          have c17b0 : (((rd_T53 t197 1).f0) == 32) = false := beq_eq_false_iff_ne.mpr c17
          have c17b1 : (((rd_T53 t197 1).f0) != 32) = true := bne_iff_ne.mpr c17
          obtain rfl := Option.some.inj H
          obtain ⟨Ao34, co34, eo34⟩ := Kd.R_slice HO_167002.out
          subst eo34
          go_wp2_with (first | ((with_reducible refine gate_callee (f := 72) rfl ?_); refine goesL_ (some 16) rfl rfl Try.func72 q5_12 rfl #[.pointer (some ⟨gb166, 0, none⟩), .int .i64 0, .int .i64 0, .agg #[.int .i32 97, .int .i64 0, .int .i64 0, .int .i64 0]] rfl q5_2 ?_; (with_reducible refine (grid_Board_Put.calls kj2 gb166 t161 t162 (fun k_ => some k_ = (.slice Ao34 t163.length co34 : Value).ownBlock) (.slice Ao34 t163.length co34) t163 0 0 97 0 0 0 t168 t169 t170 t171 w _ ?side2 ?side3 ?side1 ?side4 A7.out).mono ?_); (case side1 => repeat (first | (with_reducible first | exact HB.out | apply below_alloc | apply pw_below_drewN | apply below_drew1 | refine below_set ?_ GE166.out) | exact HB.out)); (case side2 => (with_reducible repeat (first | refine blk_drewN ?_ _ | refine blk_drew ?_ | refine blk_alloc ?_ _)); exact BK166.out); (case side3 => exact GE166.out); (case side4 => exact Kd.R_tight rfl HO_167002.out); rintro e w35 ⟨v172, rfl, ho0, hbx, hb, hkp⟩; refine ⟨_, rfl, ?_⟩; have n0_ := A5_ (hbx); have n1_ := A5_ (Kd.R_mono (ok' := fun k_ => True) ho0 (fun k_ hk_ => trivial)); have n2_ := A5_ (hb); clear BK166 HB HO_167002; have BK166 := n0_; have HO173 := n1_; have HB := n2_; clear n0_ n1_ n2_; (try clear hbx); (try clear hbn); (try clear hgn); (try clear hb); (try clear hkp); (try clear ho0); obtain ⟨Ao36, co36, eo36⟩ := Kd.R_slice HO173.out; subst eo36) | ((with_reducible refine gate_callee (f := 72) rfl ?_); refine goesL_ (some 19) rfl rfl Try.func72 q5_12 rfl #[.pointer (some ⟨gb166, 0, none⟩), .int .i64 1, .int .i64 0, .agg #[.int .i32 98, .int .i64 0, .int .i64 0, .int .i64 0]] rfl q5_2 ?_; (with_reducible refine (grid_Board_Put.calls kj2 gb166 t169 t170 (fun k_ => some k_ = (.slice Ao36 t171.length co36 : Value).ownBlock) (.slice Ao36 t171.length co36) t171 1 0 98 0 0 0 t174 t175 t176 t177 w _ ?side2 ?side3 ?side1 ?side4 A8.out).mono ?_); (case side1 => repeat (first | (with_reducible first | exact HB.out | apply below_alloc | apply pw_below_drewN | apply below_drew1 | refine below_set ?_ GE166.out) | exact HB.out)); (case side2 => (with_reducible repeat (first | refine blk_drewN ?_ _ | refine blk_drew ?_ | refine blk_alloc ?_ _)); exact BK166.out); (case side3 => exact GE166.out); (case side4 => exact Kd.R_tight rfl HO173.out); rintro e w37 ⟨v178, rfl, ho0, hbx, hb, hkp⟩; refine ⟨_, rfl, ?_⟩; have n0_ := A5_ (hbx); have n1_ := A5_ (Kd.R_mono (ok' := fun k_ => True) ho0 (fun k_ hk_ => trivial)); have n2_ := A5_ (hb); clear BK166 HB HO173; have BK166 := n0_; have HO179 := n1_; have HB := n2_; clear n0_ n1_ n2_; (try clear hbx); (try clear hbn); (try clear hgn); (try clear hb); (try clear hkp); (try clear ho0); obtain ⟨Ao38, co38, eo38⟩ := Kd.R_slice HO179.out; subst eo38) | ((with_reducible refine gate_callee (f := 72) rfl ?_); refine goesL_ (some 22) rfl rfl Try.func72 q5_12 rfl #[.pointer (some ⟨gb166, 0, none⟩), .int .i64 2, .int .i64 0, .agg #[.int .i32 99, .int .i64 0, .int .i64 0, .int .i64 0]] rfl q5_2 ?_; (with_reducible refine (grid_Board_Put.calls kj2 gb166 t175 t176 (fun k_ => some k_ = (.slice Ao38 t177.length co38 : Value).ownBlock) (.slice Ao38 t177.length co38) t177 2 0 99 0 0 0 t180 t181 t182 t183 w _ ?side2 ?side3 ?side1 ?side4 A9.out).mono ?_); (case side1 => repeat (first | (with_reducible first | exact HB.out | apply below_alloc | apply pw_below_drewN | apply below_drew1 | refine below_set ?_ GE166.out) | exact HB.out)); (case side2 => (with_reducible repeat (first | refine blk_drewN ?_ _ | refine blk_drew ?_ | refine blk_alloc ?_ _)); exact BK166.out); (case side3 => exact GE166.out); (case side4 => exact Kd.R_tight rfl HO179.out); rintro e w39 ⟨v184, rfl, ho0, hbx, hb, hkp⟩; refine ⟨_, rfl, ?_⟩; have n0_ := A5_ (hbx); have n1_ := A5_ (Kd.R_mono (ok' := fun k_ => True) ho0 (fun k_ hk_ => trivial)); have n2_ := A5_ (hb); clear BK166 HB HO179; have BK166 := n0_; have HO185 := n1_; have HB := n2_; clear n0_ n1_ n2_; (try clear hbx); (try clear hbn); (try clear hgn); (try clear hb); (try clear hkp); (try clear ho0)) | ((with_reducible refine gate_callee (f := 74) rfl ?_); refine goesL_ (some 24) rfl rfl Try.func74 q5_12 rfl #[] rfl q5_2 ?_; (with_reducible refine (batonref10_Blank.calls  t186 t187 t188 t189 _ A10.out).mono ?_); rintro e w40 ⟨rfl, hb⟩; refine ⟨_, rfl, ?_⟩; have n0_ := A5_ (Kd.R_below q5_18 hb); have n1_ := A5_ (blk_below (g := gb166) (o := .cells #[.int .i64 t181, .int .i64 t182, v184] 112 (0, 0)) q5_4 hb); have n2_ := A5_ (below_step q5_3 hb); clear HO185 BK166 HB; have HO185 := n0_; have BK166 := n1_; have HB := n2_; clear n0_ n1_ n2_; (try clear hb); (try clear hb2); (try clear hk); (try clear hi); obtain ⟨Ao41, co41, eo41⟩ := Kd.R_slice HO185.out; subst eo41) | ((with_reducible refine gate_callee (f := 73) rfl ?_); refine goesL_ (some 25) rfl rfl Try.func73 q5_12 rfl #[.pointer (some ⟨gb166, 0, none⟩), .int .i64 0, .int .i64 1, .int .i64 1, .agg #[.int .i32 t186, .int .i64 t187, .int .i64 t188, .int .i64 t189]] rfl q5_2 ?_; (with_reducible refine (grid_Board_Up.calls kj2 gb166 t181 t182 (fun k_ => some k_ = (.slice Ao41 t183.length co41 : Value).ownBlock) (.slice Ao41 t183.length co41) t183 0 1 1 t186 t187 t188 t189 t190 t191 t192 w _ ?side2 ?side3 ?side1 ?side4 A11.out).mono ?_); (case side1 => repeat (first | (with_reducible first | exact HB.out | apply below_alloc | apply pw_below_drewN | apply below_drew1 | refine below_set ?_ GE166.out) | exact HB.out)); (case side2 => (with_reducible repeat (first | refine blk_drewN ?_ _ | refine blk_drew ?_ | refine blk_alloc ?_ _)); exact BK166.out); (case side3 => exact GE166.out); (case side4 => exact Kd.R_tight rfl HO185.out); rintro e w42 ⟨v193, rfl, ho0, hbx, hb, hkp⟩; refine ⟨_, rfl, ?_⟩; have n0_ := A5_ (hbx); have n1_ := A5_ (Kd.R_mono (ok' := fun k_ => True) ho0 (fun k_ hk_ => trivial)); have n2_ := A5_ (hb); clear BK166 HB HO185; have BK166 := n0_; have HO194 := n1_; have HB := n2_; clear n0_ n1_ n2_; (try clear hbx); (try clear hbn); (try clear hgn); (try clear hb); (try clear hkp); (try clear ho0); obtain ⟨Ao43, co43, eo43⟩ := Kd.R_slice HO194.out; subst eo43) | ((with_reducible refine gate_callee (f := 49) rfl ?_); refine goesL_ (some 27) rfl rfl Try.func49 q5_12 rfl #[.pointer (some ⟨gb166, 0, none⟩)] rfl q5_2 ?_; (with_reducible refine (grid_Board_Grid.calls gb166 t190 t191 (fun k_ => some k_ = (.slice Ao43 t192.length co43 : Value).ownBlock) (.slice Ao43 t192.length co43) t192 t195 t196 t197 t200 t201 t202 w _ ?side2 ?side3 ?side1 ?side4 A12.out).mono ?_); (case side1 => repeat (first | (with_reducible first | exact HB.out | apply below_alloc | apply pw_below_drewN | apply below_drew1 | refine below_set ?_ GE166.out) | exact HB.out)); (case side2 => (with_reducible repeat (first | refine blk_drewN ?_ _ | refine blk_drew ?_ | refine blk_alloc ?_ _)); exact BK166.out); (case side3 => exact GE166.out); (case side4 => exact Kd.R_tight rfl HO194.out); rintro e w44 ⟨v198, v203, rfl, ho0, ho1, hbx, hb, hkp⟩; refine ⟨_, rfl, ?_⟩; have n0_ := A5_ (hbx); have n1_ := A5_ (Kd.R_mono (ok' := fun k_ => some k_ ≠ (v203 : Value).ownBlock) ho0 (fun k_ hk_ => hk_.2)); have n2_ := A5_ (Kd.R_mono (ok' := fun k_ => some k_ ≠ (v198 : Value).ownBlock) ho1 (fun k_ hk_ => hk_.2)); have n3_ := A5_ (hb); clear BK166 HB HO194; have BK166 := n0_; have HO199 := n1_; have HO204 := n2_; have HB := n3_; clear n0_ n1_ n2_ n3_; (try clear hbx); (try clear hbn); (try clear hgn); (try clear hb); (try clear hkp); (try clear ho0); (try clear ho1)) | ((with_reducible refine gate_dst (N := 3) rfl ?_); refine box_event ?hg (N := 3) ?hd (cs := #[.int .i64 0, .int .i64 0, .slice none 0 0]) (t := 75) ?hr ?_; (case hd => rfl); (case hg => rfl); (case hr => first | (go_simp; done) | (go_simp; rfl)); intro gb205 hg w45 hbox hb; have n0_ := A5_ (Kd.R_below q5_17 hb); have n1_ := A5_ (Kd.R_below q5_16 hb); have n2_ := A5_ (blk_below (g := gb166) (o := .cells #[.int .i64 t200, .int .i64 t201, v203] 112 (0, 0)) q5_4 hb); have n3_ := A5_ (below_step q5_3 hb); have n4_ := A5_ (hbox); have n5_ := A5_ ((by rw [hg]; exact (below_size q5_3) : w.heap.size ≤ gb205)); have n6_ := A5_ ((by rw [hg]; exact (below_size q5_3) : w.heap.size ≤ gb205)); have n7_ := A5_ ((by rw [hg]; exact Nat.ne_of_lt (blk_lt (g := gb166) (o := .cells #[.int .i64 t200, .int .i64 t201, v203] 112 (0, 0)) q5_4) : gb166 ≠ gb205)); have n8_ := A5_ ((by rw [hg]; exact Nat.ne_of_gt (blk_lt (g := gb166) (o := .cells #[.int .i64 t200, .int .i64 t201, v203] 112 (0, 0)) q5_4) : gb205 ≠ gb166)); clear HO199 HO204 BK166 HB; have HO199 := n0_; have HO204 := n1_; have BK166 := n2_; have HB := n3_; have BK205 := n4_; have GW205 := n5_; have GE205 := n6_; have NB166_205 := n7_; have NB205_166 := n8_; clear n0_ n1_ n2_ n3_ n4_ n5_ n6_ n7_ n8_; clear hb hbox hg; have hnb46 := NB205_166.out; have hnc46 := NB166_205.out; have hcz47_0 : w45.cell? ⟨gb205, 0, none⟩ = some (.int .i64 0) := (blk_cell BK205.out 0).trans rfl; have hcz47_1 : w45.cell? ⟨gb205, 1, none⟩ = some (.int .i64 0) := (blk_cell BK205.out 1).trans rfl; have hcz47_2 : w45.cell? ⟨gb205, 2, none⟩ = some (.slice none 0 0) := (blk_cell BK205.out 2).trans rfl; have hfz47_0 := blk_frozen BK205.out 0; have hfz47_1 := blk_frozen BK205.out 1; have hfz47_2 := blk_frozen BK205.out 2; obtain ⟨Ao48, co48, eo48⟩ := Kd.R_slice HO199.out; subst eo48; have p206 : 0 ≤ (0 : Int) := q5_20; have q206 : 0 < (t197.length : Int) := of_decide_eq_true q5_19; obtain ⟨ad206, e206, hx206_0, hx206_1, hx206_2, hx206_3⟩ := at_T53 (Kd.R_reads' HO199.out).2.2 0 p206 q206; cases e206; have qi206 : (0 < t197.length) = True := eq_true q5_20; (try rw [show ((0 : Int)).toNat = 0 from rfl] at hx206_0); (try rw [show 0 * 4 = 0 from rfl] at hx206_0); (try rw [Addr.add_zero'] at hx206_0); (try rw [show ((0 : Int)).toNat = 0 from rfl] at hx206_1); (try rw [show 0 * 4 = 0 from rfl] at hx206_1); (try rw [Addr.add_zero'] at hx206_1); (try rw [show ((0 : Int)).toNat = 0 from rfl] at hx206_2); (try rw [show 0 * 4 = 0 from rfl] at hx206_2); (try rw [Addr.add_zero'] at hx206_2); (try rw [show ((0 : Int)).toNat = 0 from rfl] at hx206_3); (try rw [show 0 * 4 = 0 from rfl] at hx206_3); (try rw [Addr.add_zero'] at hx206_3); have hn206_0 : ad206.block ≠ gb205 := Kd.own_blk (Kd.R_ne HO199.out BK205.out (by decide)); have hn206_1 : ad206.block ≠ gb205 := Kd.own_blk (Kd.R_ne HO199.out BK205.out (by decide)); have hn206_2 : ad206.block ≠ gb205 := Kd.own_blk (Kd.R_ne HO199.out BK205.out (by decide)); replace hx206_0 := (cell_far (p := ⟨gb205, 0, none⟩) q5_7 (.int .i64 t195)).trans hx206_0; replace hx206_1 := (cell_far (p := ⟨gb205, 0, none⟩) q5_7 (.int .i64 t195)).trans hx206_1; replace hx206_2 := (cell_far (p := ⟨gb205, 0, none⟩) q5_7 (.int .i64 t195)).trans hx206_2; replace hx206_3 := (cell_far (p := ⟨gb205, 0, none⟩) q5_7 (.int .i64 t195)).trans hx206_3; replace hx206_0 := (cell_far (p := ⟨gb205, 1, none⟩) q5_6 (.int .i64 t196)).trans hx206_0; replace hx206_1 := (cell_far (p := ⟨gb205, 1, none⟩) q5_6 (.int .i64 t196)).trans hx206_1; replace hx206_2 := (cell_far (p := ⟨gb205, 1, none⟩) q5_6 (.int .i64 t196)).trans hx206_2; replace hx206_3 := (cell_far (p := ⟨gb205, 1, none⟩) q5_6 (.int .i64 t196)).trans hx206_3; replace hx206_0 := (cell_far (p := ⟨gb205, 2, none⟩) q5_5 (.slice (some ad206) t197.length co48)).trans hx206_0; replace hx206_1 := (cell_far (p := ⟨gb205, 2, none⟩) q5_5 (.slice (some ad206) t197.length co48)).trans hx206_1; replace hx206_2 := (cell_far (p := ⟨gb205, 2, none⟩) q5_5 (.slice (some ad206) t197.length co48)).trans hx206_2; replace hx206_3 := (cell_far (p := ⟨gb205, 2, none⟩) q5_5 (.slice (some ad206) t197.length co48)).trans hx206_3; clear hn206_0 hn206_1 hn206_2; replace p206 := eq_true p206; replace q206 := eq_true q206; have p207 : 0 ≤ (1 : Int) := q5_20; have q207 : 1 < (t197.length : Int) := of_decide_eq_true q5_19; obtain ⟨ad207, e207, hx207_0, hx207_1, hx207_2, hx207_3⟩ := at_T53 (Kd.R_reads' HO199.out).2.2 1 p207 q207; obtain rfl : ad206 = ad207 := (by injection e207); (try simp only [show (1 : Int).toNat = 1 from rfl, Nat.reduceMul, Nat.reduceEqDiff, Go.Addr.add, ↓reduceIte] at hx207_0); (try simp only [show (1 : Int).toNat = 1 from rfl, Nat.reduceMul, Nat.reduceEqDiff, Go.Addr.add, ↓reduceIte] at hx207_1); (try simp only [show (1 : Int).toNat = 1 from rfl, Nat.reduceMul, Nat.reduceEqDiff, Go.Addr.add, ↓reduceIte] at hx207_2); (try simp only [show (1 : Int).toNat = 1 from rfl, Nat.reduceMul, Nat.reduceEqDiff, Go.Addr.add, ↓reduceIte] at hx207_3); have qi207 : (1 < t197.length) = True := eq_true q5_20; (try rw [show ((1 : Int)).toNat = 1 from rfl] at hx207_0); (try rw [show 1 * 4 = 4 from rfl] at hx207_0); (try rw [show ((1 : Int)).toNat = 1 from rfl] at hx207_1); (try rw [show 1 * 4 = 4 from rfl] at hx207_1); (try rw [show ((1 : Int)).toNat = 1 from rfl] at hx207_2); (try rw [show 1 * 4 = 4 from rfl] at hx207_2); (try rw [show ((1 : Int)).toNat = 1 from rfl] at hx207_3); (try rw [show 1 * 4 = 4 from rfl] at hx207_3); have hn207_0 : ad206.block ≠ gb205 := Kd.own_blk (Kd.R_ne HO199.out BK205.out (by decide)); have hn207_1 : ad206.block ≠ gb205 := Kd.own_blk (Kd.R_ne HO199.out BK205.out (by decide)); have hn207_2 : ad206.block ≠ gb205 := Kd.own_blk (Kd.R_ne HO199.out BK205.out (by decide)); replace hx207_0 := (cell_far (p := ⟨gb205, 0, none⟩) q5_11 (.int .i64 t195)).trans hx207_0; replace hx207_1 := (cell_far (p := ⟨gb205, 0, none⟩) q5_11 (.int .i64 t195)).trans hx207_1; replace hx207_2 := (cell_far (p := ⟨gb205, 0, none⟩) q5_11 (.int .i64 t195)).trans hx207_2; replace hx207_3 := (cell_far (p := ⟨gb205, 0, none⟩) q5_11 (.int .i64 t195)).trans hx207_3; replace hx207_0 := (cell_far (p := ⟨gb205, 1, none⟩) q5_10 (.int .i64 t196)).trans hx207_0; replace hx207_1 := (cell_far (p := ⟨gb205, 1, none⟩) q5_10 (.int .i64 t196)).trans hx207_1; replace hx207_2 := (cell_far (p := ⟨gb205, 1, none⟩) q5_10 (.int .i64 t196)).trans hx207_2; replace hx207_3 := (cell_far (p := ⟨gb205, 1, none⟩) q5_10 (.int .i64 t196)).trans hx207_3; replace hx207_0 := (cell_far (p := ⟨gb205, 2, none⟩) q5_9 (.slice (some ad206) t197.length co48)).trans hx207_0; replace hx207_1 := (cell_far (p := ⟨gb205, 2, none⟩) q5_9 (.slice (some ad206) t197.length co48)).trans hx207_1; replace hx207_2 := (cell_far (p := ⟨gb205, 2, none⟩) q5_9 (.slice (some ad206) t197.length co48)).trans hx207_2; replace hx207_3 := (cell_far (p := ⟨gb205, 2, none⟩) q5_9 (.slice (some ad206) t197.length co48)).trans hx207_3; clear hn207_0 hn207_1 hn207_2; replace p207 := eq_true p207; replace q207 := eq_true q207))
          go_ret
          exact ⟨by first | rfl | (simp [errW_none, errW_some] <;> rfl) | (simp [*, errW_none, errW_some] <;> rfl), by repeat (first | (with_reducible first | exact HB.out | apply below_alloc | apply pw_below_drewN | apply below_drew1 | refine below_set ?_ GE166.out | refine below_set ?_ GE205.out) | exact HB.out)⟩
        ·rw [if_neg c16] at H
         exact absurd H (by simp)
       ·rw [if_neg c15] at H
        have c15b0 : (((rd_T53 t197 0).f0) == 98) = false := beq_eq_false_iff_ne.mpr c15
        have c15b1 : (((rd_T53 t197 0).f0) != 98) = true := bne_iff_ne.mpr c15
        obtain rfl := Option.some.inj H
        obtain ⟨Ao49, co49, eo49⟩ := Kd.R_slice HO_167002.out
        subst eo49
        go_wp2_with (first | ((with_reducible refine gate_callee (f := 72) rfl ?_); refine goesL_ (some 16) rfl rfl Try.func72 q5_12 rfl #[.pointer (some ⟨gb166, 0, none⟩), .int .i64 0, .int .i64 0, .agg #[.int .i32 97, .int .i64 0, .int .i64 0, .int .i64 0]] rfl q5_2 ?_; (with_reducible refine (grid_Board_Put.calls kj2 gb166 t161 t162 (fun k_ => some k_ = (.slice Ao49 t163.length co49 : Value).ownBlock) (.slice Ao49 t163.length co49) t163 0 0 97 0 0 0 t168 t169 t170 t171 w _ ?side2 ?side3 ?side1 ?side4 A7.out).mono ?_); (case side1 => repeat (first | (with_reducible first | exact HB.out | apply below_alloc | apply pw_below_drewN | apply below_drew1 | refine below_set ?_ GE166.out) | exact HB.out)); (case side2 => (with_reducible repeat (first | refine blk_drewN ?_ _ | refine blk_drew ?_ | refine blk_alloc ?_ _)); exact BK166.out); (case side3 => exact GE166.out); (case side4 => exact Kd.R_tight rfl HO_167002.out); rintro e w50 ⟨v172, rfl, ho0, hbx, hb, hkp⟩; refine ⟨_, rfl, ?_⟩; have n0_ := A5_ (hbx); have n1_ := A5_ (Kd.R_mono (ok' := fun k_ => True) ho0 (fun k_ hk_ => trivial)); have n2_ := A5_ (hb); clear BK166 HB HO_167002; have BK166 := n0_; have HO173 := n1_; have HB := n2_; clear n0_ n1_ n2_; (try clear hbx); (try clear hbn); (try clear hgn); (try clear hb); (try clear hkp); (try clear ho0); obtain ⟨Ao51, co51, eo51⟩ := Kd.R_slice HO173.out; subst eo51) | ((with_reducible refine gate_callee (f := 72) rfl ?_); refine goesL_ (some 19) rfl rfl Try.func72 q5_12 rfl #[.pointer (some ⟨gb166, 0, none⟩), .int .i64 1, .int .i64 0, .agg #[.int .i32 98, .int .i64 0, .int .i64 0, .int .i64 0]] rfl q5_2 ?_; (with_reducible refine (grid_Board_Put.calls kj2 gb166 t169 t170 (fun k_ => some k_ = (.slice Ao51 t171.length co51 : Value).ownBlock) (.slice Ao51 t171.length co51) t171 1 0 98 0 0 0 t174 t175 t176 t177 w _ ?side2 ?side3 ?side1 ?side4 A8.out).mono ?_); (case side1 => repeat (first | (with_reducible first | exact HB.out | apply below_alloc | apply pw_below_drewN | apply below_drew1 | refine below_set ?_ GE166.out) | exact HB.out)); (case side2 => (with_reducible repeat (first | refine blk_drewN ?_ _ | refine blk_drew ?_ | refine blk_alloc ?_ _)); exact BK166.out); (case side3 => exact GE166.out); (case side4 => exact Kd.R_tight rfl HO173.out); rintro e w52 ⟨v178, rfl, ho0, hbx, hb, hkp⟩; refine ⟨_, rfl, ?_⟩; have n0_ := A5_ (hbx); have n1_ := A5_ (Kd.R_mono (ok' := fun k_ => True) ho0 (fun k_ hk_ => trivial)); have n2_ := A5_ (hb); clear BK166 HB HO173; have BK166 := n0_; have HO179 := n1_; have HB := n2_; clear n0_ n1_ n2_; (try clear hbx); (try clear hbn); (try clear hgn); (try clear hb); (try clear hkp); (try clear ho0); obtain ⟨Ao53, co53, eo53⟩ := Kd.R_slice HO179.out; subst eo53) | ((with_reducible refine gate_callee (f := 72) rfl ?_); refine goesL_ (some 22) rfl rfl Try.func72 q5_12 rfl #[.pointer (some ⟨gb166, 0, none⟩), .int .i64 2, .int .i64 0, .agg #[.int .i32 99, .int .i64 0, .int .i64 0, .int .i64 0]] rfl q5_2 ?_; (with_reducible refine (grid_Board_Put.calls kj2 gb166 t175 t176 (fun k_ => some k_ = (.slice Ao53 t177.length co53 : Value).ownBlock) (.slice Ao53 t177.length co53) t177 2 0 99 0 0 0 t180 t181 t182 t183 w _ ?side2 ?side3 ?side1 ?side4 A9.out).mono ?_); (case side1 => repeat (first | (with_reducible first | exact HB.out | apply below_alloc | apply pw_below_drewN | apply below_drew1 | refine below_set ?_ GE166.out) | exact HB.out)); (case side2 => (with_reducible repeat (first | refine blk_drewN ?_ _ | refine blk_drew ?_ | refine blk_alloc ?_ _)); exact BK166.out); (case side3 => exact GE166.out); (case side4 => exact Kd.R_tight rfl HO179.out); rintro e w54 ⟨v184, rfl, ho0, hbx, hb, hkp⟩; refine ⟨_, rfl, ?_⟩; have n0_ := A5_ (hbx); have n1_ := A5_ (Kd.R_mono (ok' := fun k_ => True) ho0 (fun k_ hk_ => trivial)); have n2_ := A5_ (hb); clear BK166 HB HO179; have BK166 := n0_; have HO185 := n1_; have HB := n2_; clear n0_ n1_ n2_; (try clear hbx); (try clear hbn); (try clear hgn); (try clear hb); (try clear hkp); (try clear ho0)) | ((with_reducible refine gate_callee (f := 74) rfl ?_); refine goesL_ (some 24) rfl rfl Try.func74 q5_12 rfl #[] rfl q5_2 ?_; (with_reducible refine (batonref10_Blank.calls  t186 t187 t188 t189 _ A10.out).mono ?_); rintro e w55 ⟨rfl, hb⟩; refine ⟨_, rfl, ?_⟩; have n0_ := A5_ (Kd.R_below q5_18 hb); have n1_ := A5_ (blk_below (g := gb166) (o := .cells #[.int .i64 t181, .int .i64 t182, v184] 112 (0, 0)) q5_4 hb); have n2_ := A5_ (below_step q5_3 hb); clear HO185 BK166 HB; have HO185 := n0_; have BK166 := n1_; have HB := n2_; clear n0_ n1_ n2_; (try clear hb); (try clear hb2); (try clear hk); (try clear hi); obtain ⟨Ao56, co56, eo56⟩ := Kd.R_slice HO185.out; subst eo56) | ((with_reducible refine gate_callee (f := 73) rfl ?_); refine goesL_ (some 25) rfl rfl Try.func73 q5_12 rfl #[.pointer (some ⟨gb166, 0, none⟩), .int .i64 0, .int .i64 1, .int .i64 1, .agg #[.int .i32 t186, .int .i64 t187, .int .i64 t188, .int .i64 t189]] rfl q5_2 ?_; (with_reducible refine (grid_Board_Up.calls kj2 gb166 t181 t182 (fun k_ => some k_ = (.slice Ao56 t183.length co56 : Value).ownBlock) (.slice Ao56 t183.length co56) t183 0 1 1 t186 t187 t188 t189 t190 t191 t192 w _ ?side2 ?side3 ?side1 ?side4 A11.out).mono ?_); (case side1 => repeat (first | (with_reducible first | exact HB.out | apply below_alloc | apply pw_below_drewN | apply below_drew1 | refine below_set ?_ GE166.out) | exact HB.out)); (case side2 => (with_reducible repeat (first | refine blk_drewN ?_ _ | refine blk_drew ?_ | refine blk_alloc ?_ _)); exact BK166.out); (case side3 => exact GE166.out); (case side4 => exact Kd.R_tight rfl HO185.out); rintro e w57 ⟨v193, rfl, ho0, hbx, hb, hkp⟩; refine ⟨_, rfl, ?_⟩; have n0_ := A5_ (hbx); have n1_ := A5_ (Kd.R_mono (ok' := fun k_ => True) ho0 (fun k_ hk_ => trivial)); have n2_ := A5_ (hb); clear BK166 HB HO185; have BK166 := n0_; have HO194 := n1_; have HB := n2_; clear n0_ n1_ n2_; (try clear hbx); (try clear hbn); (try clear hgn); (try clear hb); (try clear hkp); (try clear ho0); obtain ⟨Ao58, co58, eo58⟩ := Kd.R_slice HO194.out; subst eo58) | ((with_reducible refine gate_callee (f := 49) rfl ?_); refine goesL_ (some 27) rfl rfl Try.func49 q5_12 rfl #[.pointer (some ⟨gb166, 0, none⟩)] rfl q5_2 ?_; (with_reducible refine (grid_Board_Grid.calls gb166 t190 t191 (fun k_ => some k_ = (.slice Ao58 t192.length co58 : Value).ownBlock) (.slice Ao58 t192.length co58) t192 t195 t196 t197 t200 t201 t202 w _ ?side2 ?side3 ?side1 ?side4 A12.out).mono ?_); (case side1 => repeat (first | (with_reducible first | exact HB.out | apply below_alloc | apply pw_below_drewN | apply below_drew1 | refine below_set ?_ GE166.out) | exact HB.out)); (case side2 => (with_reducible repeat (first | refine blk_drewN ?_ _ | refine blk_drew ?_ | refine blk_alloc ?_ _)); exact BK166.out); (case side3 => exact GE166.out); (case side4 => exact Kd.R_tight rfl HO194.out); rintro e w59 ⟨v198, v203, rfl, ho0, ho1, hbx, hb, hkp⟩; refine ⟨_, rfl, ?_⟩; have n0_ := A5_ (hbx); have n1_ := A5_ (Kd.R_mono (ok' := fun k_ => some k_ ≠ (v203 : Value).ownBlock) ho0 (fun k_ hk_ => hk_.2)); have n2_ := A5_ (Kd.R_mono (ok' := fun k_ => some k_ ≠ (v198 : Value).ownBlock) ho1 (fun k_ hk_ => hk_.2)); have n3_ := A5_ (hb); clear BK166 HB HO194; have BK166 := n0_; have HO199 := n1_; have HO204 := n2_; have HB := n3_; clear n0_ n1_ n2_ n3_; (try clear hbx); (try clear hbn); (try clear hgn); (try clear hb); (try clear hkp); (try clear ho0); (try clear ho1)) | ((with_reducible refine gate_dst (N := 3) rfl ?_); refine box_event ?hg (N := 3) ?hd (cs := #[.int .i64 0, .int .i64 0, .slice none 0 0]) (t := 75) ?hr ?_; (case hd => rfl); (case hg => rfl); (case hr => first | (go_simp; done) | (go_simp; rfl)); intro gb205 hg w60 hbox hb; have n0_ := A5_ (Kd.R_below q5_17 hb); have n1_ := A5_ (Kd.R_below q5_16 hb); have n2_ := A5_ (blk_below (g := gb166) (o := .cells #[.int .i64 t200, .int .i64 t201, v203] 112 (0, 0)) q5_4 hb); have n3_ := A5_ (below_step q5_3 hb); have n4_ := A5_ (hbox); have n5_ := A5_ ((by rw [hg]; exact (below_size q5_3) : w.heap.size ≤ gb205)); have n6_ := A5_ ((by rw [hg]; exact (below_size q5_3) : w.heap.size ≤ gb205)); have n7_ := A5_ ((by rw [hg]; exact Nat.ne_of_lt (blk_lt (g := gb166) (o := .cells #[.int .i64 t200, .int .i64 t201, v203] 112 (0, 0)) q5_4) : gb166 ≠ gb205)); have n8_ := A5_ ((by rw [hg]; exact Nat.ne_of_gt (blk_lt (g := gb166) (o := .cells #[.int .i64 t200, .int .i64 t201, v203] 112 (0, 0)) q5_4) : gb205 ≠ gb166)); clear HO199 HO204 BK166 HB; have HO199 := n0_; have HO204 := n1_; have BK166 := n2_; have HB := n3_; have BK205 := n4_; have GW205 := n5_; have GE205 := n6_; have NB166_205 := n7_; have NB205_166 := n8_; clear n0_ n1_ n2_ n3_ n4_ n5_ n6_ n7_ n8_; clear hb hbox hg; have hnb61 := NB205_166.out; have hnc61 := NB166_205.out; have hcz62_0 : w60.cell? ⟨gb205, 0, none⟩ = some (.int .i64 0) := (blk_cell BK205.out 0).trans rfl; have hcz62_1 : w60.cell? ⟨gb205, 1, none⟩ = some (.int .i64 0) := (blk_cell BK205.out 1).trans rfl; have hcz62_2 : w60.cell? ⟨gb205, 2, none⟩ = some (.slice none 0 0) := (blk_cell BK205.out 2).trans rfl; have hfz62_0 := blk_frozen BK205.out 0; have hfz62_1 := blk_frozen BK205.out 1; have hfz62_2 := blk_frozen BK205.out 2; obtain ⟨Ao63, co63, eo63⟩ := Kd.R_slice HO199.out; subst eo63; have p206 : 0 ≤ (0 : Int) := q5_20; have q206 : 0 < (t197.length : Int) := of_decide_eq_true q5_19; obtain ⟨ad206, e206, hx206_0, hx206_1, hx206_2, hx206_3⟩ := at_T53 (Kd.R_reads' HO199.out).2.2 0 p206 q206; cases e206; have qi206 : (0 < t197.length) = True := eq_true q5_20; (try rw [show ((0 : Int)).toNat = 0 from rfl] at hx206_0); (try rw [show 0 * 4 = 0 from rfl] at hx206_0); (try rw [Addr.add_zero'] at hx206_0); (try rw [show ((0 : Int)).toNat = 0 from rfl] at hx206_1); (try rw [show 0 * 4 = 0 from rfl] at hx206_1); (try rw [Addr.add_zero'] at hx206_1); (try rw [show ((0 : Int)).toNat = 0 from rfl] at hx206_2); (try rw [show 0 * 4 = 0 from rfl] at hx206_2); (try rw [Addr.add_zero'] at hx206_2); (try rw [show ((0 : Int)).toNat = 0 from rfl] at hx206_3); (try rw [show 0 * 4 = 0 from rfl] at hx206_3); (try rw [Addr.add_zero'] at hx206_3); have hn206_0 : ad206.block ≠ gb205 := Kd.own_blk (Kd.R_ne HO199.out BK205.out (by decide)); have hn206_1 : ad206.block ≠ gb205 := Kd.own_blk (Kd.R_ne HO199.out BK205.out (by decide)); have hn206_2 : ad206.block ≠ gb205 := Kd.own_blk (Kd.R_ne HO199.out BK205.out (by decide)); replace hx206_0 := (cell_far (p := ⟨gb205, 0, none⟩) q5_7 (.int .i64 t195)).trans hx206_0; replace hx206_1 := (cell_far (p := ⟨gb205, 0, none⟩) q5_7 (.int .i64 t195)).trans hx206_1; replace hx206_2 := (cell_far (p := ⟨gb205, 0, none⟩) q5_7 (.int .i64 t195)).trans hx206_2; replace hx206_3 := (cell_far (p := ⟨gb205, 0, none⟩) q5_7 (.int .i64 t195)).trans hx206_3; replace hx206_0 := (cell_far (p := ⟨gb205, 1, none⟩) q5_6 (.int .i64 t196)).trans hx206_0; replace hx206_1 := (cell_far (p := ⟨gb205, 1, none⟩) q5_6 (.int .i64 t196)).trans hx206_1; replace hx206_2 := (cell_far (p := ⟨gb205, 1, none⟩) q5_6 (.int .i64 t196)).trans hx206_2; replace hx206_3 := (cell_far (p := ⟨gb205, 1, none⟩) q5_6 (.int .i64 t196)).trans hx206_3; replace hx206_0 := (cell_far (p := ⟨gb205, 2, none⟩) q5_5 (.slice (some ad206) t197.length co63)).trans hx206_0; replace hx206_1 := (cell_far (p := ⟨gb205, 2, none⟩) q5_5 (.slice (some ad206) t197.length co63)).trans hx206_1; replace hx206_2 := (cell_far (p := ⟨gb205, 2, none⟩) q5_5 (.slice (some ad206) t197.length co63)).trans hx206_2; replace hx206_3 := (cell_far (p := ⟨gb205, 2, none⟩) q5_5 (.slice (some ad206) t197.length co63)).trans hx206_3; clear hn206_0 hn206_1 hn206_2; replace p206 := eq_true p206; replace q206 := eq_true q206))
        go_ret
        exact ⟨by first | rfl | (simp [errW_none, errW_some] <;> rfl) | (simp [*, errW_none, errW_some] <;> rfl), by repeat (first | (with_reducible first | exact HB.out | apply below_alloc | apply pw_below_drewN | apply below_drew1 | refine below_set ?_ GE166.out | refine below_set ?_ GE205.out) | exact HB.out)⟩
      ·rw [if_neg c14] at H
       exact absurd H (by simp)
     ·rw [if_neg c13] at H
      have c13b0 : ((t197.length : Int) == 3) = false := beq_eq_false_iff_ne.mpr c13
      have c13b1 : ((t197.length : Int) != 3) = true := bne_iff_ne.mpr c13
      obtain rfl := Option.some.inj H
      obtain ⟨Ao64, co64, eo64⟩ := Kd.R_slice HO_167002.out
      subst eo64
      go_wp2_with (first | ((with_reducible refine gate_callee (f := 72) rfl ?_); refine goesL_ (some 16) rfl rfl Try.func72 q5_12 rfl #[.pointer (some ⟨gb166, 0, none⟩), .int .i64 0, .int .i64 0, .agg #[.int .i32 97, .int .i64 0, .int .i64 0, .int .i64 0]] rfl q5_2 ?_; (with_reducible refine (grid_Board_Put.calls kj2 gb166 t161 t162 (fun k_ => some k_ = (.slice Ao64 t163.length co64 : Value).ownBlock) (.slice Ao64 t163.length co64) t163 0 0 97 0 0 0 t168 t169 t170 t171 w _ ?side2 ?side3 ?side1 ?side4 A7.out).mono ?_); (case side1 => repeat (first | (with_reducible first | exact HB.out | apply below_alloc | apply pw_below_drewN | apply below_drew1 | refine below_set ?_ GE166.out) | exact HB.out)); (case side2 => (with_reducible repeat (first | refine blk_drewN ?_ _ | refine blk_drew ?_ | refine blk_alloc ?_ _)); exact BK166.out); (case side3 => exact GE166.out); (case side4 => exact Kd.R_tight rfl HO_167002.out); rintro e w65 ⟨v172, rfl, ho0, hbx, hb, hkp⟩; refine ⟨_, rfl, ?_⟩; have n0_ := A5_ (hbx); have n1_ := A5_ (Kd.R_mono (ok' := fun k_ => True) ho0 (fun k_ hk_ => trivial)); have n2_ := A5_ (hb); clear BK166 HB HO_167002; have BK166 := n0_; have HO173 := n1_; have HB := n2_; clear n0_ n1_ n2_; (try clear hbx); (try clear hbn); (try clear hgn); (try clear hb); (try clear hkp); (try clear ho0); obtain ⟨Ao66, co66, eo66⟩ := Kd.R_slice HO173.out; subst eo66) | ((with_reducible refine gate_callee (f := 72) rfl ?_); refine goesL_ (some 19) rfl rfl Try.func72 q5_12 rfl #[.pointer (some ⟨gb166, 0, none⟩), .int .i64 1, .int .i64 0, .agg #[.int .i32 98, .int .i64 0, .int .i64 0, .int .i64 0]] rfl q5_2 ?_; (with_reducible refine (grid_Board_Put.calls kj2 gb166 t169 t170 (fun k_ => some k_ = (.slice Ao66 t171.length co66 : Value).ownBlock) (.slice Ao66 t171.length co66) t171 1 0 98 0 0 0 t174 t175 t176 t177 w _ ?side2 ?side3 ?side1 ?side4 A8.out).mono ?_); (case side1 => repeat (first | (with_reducible first | exact HB.out | apply below_alloc | apply pw_below_drewN | apply below_drew1 | refine below_set ?_ GE166.out) | exact HB.out)); (case side2 => (with_reducible repeat (first | refine blk_drewN ?_ _ | refine blk_drew ?_ | refine blk_alloc ?_ _)); exact BK166.out); (case side3 => exact GE166.out); (case side4 => exact Kd.R_tight rfl HO173.out); rintro e w67 ⟨v178, rfl, ho0, hbx, hb, hkp⟩; refine ⟨_, rfl, ?_⟩; have n0_ := A5_ (hbx); have n1_ := A5_ (Kd.R_mono (ok' := fun k_ => True) ho0 (fun k_ hk_ => trivial)); have n2_ := A5_ (hb); clear BK166 HB HO173; have BK166 := n0_; have HO179 := n1_; have HB := n2_; clear n0_ n1_ n2_; (try clear hbx); (try clear hbn); (try clear hgn); (try clear hb); (try clear hkp); (try clear ho0); obtain ⟨Ao68, co68, eo68⟩ := Kd.R_slice HO179.out; subst eo68) | ((with_reducible refine gate_callee (f := 72) rfl ?_); refine goesL_ (some 22) rfl rfl Try.func72 q5_12 rfl #[.pointer (some ⟨gb166, 0, none⟩), .int .i64 2, .int .i64 0, .agg #[.int .i32 99, .int .i64 0, .int .i64 0, .int .i64 0]] rfl q5_2 ?_; (with_reducible refine (grid_Board_Put.calls kj2 gb166 t175 t176 (fun k_ => some k_ = (.slice Ao68 t177.length co68 : Value).ownBlock) (.slice Ao68 t177.length co68) t177 2 0 99 0 0 0 t180 t181 t182 t183 w _ ?side2 ?side3 ?side1 ?side4 A9.out).mono ?_); (case side1 => repeat (first | (with_reducible first | exact HB.out | apply below_alloc | apply pw_below_drewN | apply below_drew1 | refine below_set ?_ GE166.out) | exact HB.out)); (case side2 => (with_reducible repeat (first | refine blk_drewN ?_ _ | refine blk_drew ?_ | refine blk_alloc ?_ _)); exact BK166.out); (case side3 => exact GE166.out); (case side4 => exact Kd.R_tight rfl HO179.out); rintro e w69 ⟨v184, rfl, ho0, hbx, hb, hkp⟩; refine ⟨_, rfl, ?_⟩; have n0_ := A5_ (hbx); have n1_ := A5_ (Kd.R_mono (ok' := fun k_ => True) ho0 (fun k_ hk_ => trivial)); have n2_ := A5_ (hb); clear BK166 HB HO179; have BK166 := n0_; have HO185 := n1_; have HB := n2_; clear n0_ n1_ n2_; (try clear hbx); (try clear hbn); (try clear hgn); (try clear hb); (try clear hkp); (try clear ho0)) | ((with_reducible refine gate_callee (f := 74) rfl ?_); refine goesL_ (some 24) rfl rfl Try.func74 q5_12 rfl #[] rfl q5_2 ?_; (with_reducible refine (batonref10_Blank.calls  t186 t187 t188 t189 _ A10.out).mono ?_); rintro e w70 ⟨rfl, hb⟩; refine ⟨_, rfl, ?_⟩; have n0_ := A5_ (Kd.R_below q5_18 hb); have n1_ := A5_ (blk_below (g := gb166) (o := .cells #[.int .i64 t181, .int .i64 t182, v184] 112 (0, 0)) q5_4 hb); have n2_ := A5_ (below_step q5_3 hb); clear HO185 BK166 HB; have HO185 := n0_; have BK166 := n1_; have HB := n2_; clear n0_ n1_ n2_; (try clear hb); (try clear hb2); (try clear hk); (try clear hi); obtain ⟨Ao71, co71, eo71⟩ := Kd.R_slice HO185.out; subst eo71) | ((with_reducible refine gate_callee (f := 73) rfl ?_); refine goesL_ (some 25) rfl rfl Try.func73 q5_12 rfl #[.pointer (some ⟨gb166, 0, none⟩), .int .i64 0, .int .i64 1, .int .i64 1, .agg #[.int .i32 t186, .int .i64 t187, .int .i64 t188, .int .i64 t189]] rfl q5_2 ?_; (with_reducible refine (grid_Board_Up.calls kj2 gb166 t181 t182 (fun k_ => some k_ = (.slice Ao71 t183.length co71 : Value).ownBlock) (.slice Ao71 t183.length co71) t183 0 1 1 t186 t187 t188 t189 t190 t191 t192 w _ ?side2 ?side3 ?side1 ?side4 A11.out).mono ?_); (case side1 => repeat (first | (with_reducible first | exact HB.out | apply below_alloc | apply pw_below_drewN | apply below_drew1 | refine below_set ?_ GE166.out) | exact HB.out)); (case side2 => (with_reducible repeat (first | refine blk_drewN ?_ _ | refine blk_drew ?_ | refine blk_alloc ?_ _)); exact BK166.out); (case side3 => exact GE166.out); (case side4 => exact Kd.R_tight rfl HO185.out); rintro e w72 ⟨v193, rfl, ho0, hbx, hb, hkp⟩; refine ⟨_, rfl, ?_⟩; have n0_ := A5_ (hbx); have n1_ := A5_ (Kd.R_mono (ok' := fun k_ => True) ho0 (fun k_ hk_ => trivial)); have n2_ := A5_ (hb); clear BK166 HB HO185; have BK166 := n0_; have HO194 := n1_; have HB := n2_; clear n0_ n1_ n2_; (try clear hbx); (try clear hbn); (try clear hgn); (try clear hb); (try clear hkp); (try clear ho0); obtain ⟨Ao73, co73, eo73⟩ := Kd.R_slice HO194.out; subst eo73) | ((with_reducible refine gate_callee (f := 49) rfl ?_); refine goesL_ (some 27) rfl rfl Try.func49 q5_12 rfl #[.pointer (some ⟨gb166, 0, none⟩)] rfl q5_2 ?_; (with_reducible refine (grid_Board_Grid.calls gb166 t190 t191 (fun k_ => some k_ = (.slice Ao73 t192.length co73 : Value).ownBlock) (.slice Ao73 t192.length co73) t192 t195 t196 t197 t200 t201 t202 w _ ?side2 ?side3 ?side1 ?side4 A12.out).mono ?_); (case side1 => repeat (first | (with_reducible first | exact HB.out | apply below_alloc | apply pw_below_drewN | apply below_drew1 | refine below_set ?_ GE166.out) | exact HB.out)); (case side2 => (with_reducible repeat (first | refine blk_drewN ?_ _ | refine blk_drew ?_ | refine blk_alloc ?_ _)); exact BK166.out); (case side3 => exact GE166.out); (case side4 => exact Kd.R_tight rfl HO194.out); rintro e w74 ⟨v198, v203, rfl, ho0, ho1, hbx, hb, hkp⟩; refine ⟨_, rfl, ?_⟩; have n0_ := A5_ (hbx); have n1_ := A5_ (Kd.R_mono (ok' := fun k_ => some k_ ≠ (v203 : Value).ownBlock) ho0 (fun k_ hk_ => hk_.2)); have n2_ := A5_ (Kd.R_mono (ok' := fun k_ => some k_ ≠ (v198 : Value).ownBlock) ho1 (fun k_ hk_ => hk_.2)); have n3_ := A5_ (hb); clear BK166 HB HO194; have BK166 := n0_; have HO199 := n1_; have HO204 := n2_; have HB := n3_; clear n0_ n1_ n2_ n3_; (try clear hbx); (try clear hbn); (try clear hgn); (try clear hb); (try clear hkp); (try clear ho0); (try clear ho1)) | ((with_reducible refine gate_dst (N := 3) rfl ?_); refine box_event ?hg (N := 3) ?hd (cs := #[.int .i64 0, .int .i64 0, .slice none 0 0]) (t := 75) ?hr ?_; (case hd => rfl); (case hg => rfl); (case hr => first | (go_simp; done) | (go_simp; rfl)); intro gb205 hg w75 hbox hb; have n0_ := A5_ (Kd.R_below q5_17 hb); have n1_ := A5_ (Kd.R_below q5_16 hb); have n2_ := A5_ (blk_below (g := gb166) (o := .cells #[.int .i64 t200, .int .i64 t201, v203] 112 (0, 0)) q5_4 hb); have n3_ := A5_ (below_step q5_3 hb); have n4_ := A5_ (hbox); have n5_ := A5_ ((by rw [hg]; exact (below_size q5_3) : w.heap.size ≤ gb205)); have n6_ := A5_ ((by rw [hg]; exact (below_size q5_3) : w.heap.size ≤ gb205)); have n7_ := A5_ ((by rw [hg]; exact Nat.ne_of_lt (blk_lt (g := gb166) (o := .cells #[.int .i64 t200, .int .i64 t201, v203] 112 (0, 0)) q5_4) : gb166 ≠ gb205)); have n8_ := A5_ ((by rw [hg]; exact Nat.ne_of_gt (blk_lt (g := gb166) (o := .cells #[.int .i64 t200, .int .i64 t201, v203] 112 (0, 0)) q5_4) : gb205 ≠ gb166)); clear HO199 HO204 BK166 HB; have HO199 := n0_; have HO204 := n1_; have BK166 := n2_; have HB := n3_; have BK205 := n4_; have GW205 := n5_; have GE205 := n6_; have NB166_205 := n7_; have NB205_166 := n8_; clear n0_ n1_ n2_ n3_ n4_ n5_ n6_ n7_ n8_; clear hb hbox hg; have hnb76 := NB205_166.out; have hnc76 := NB166_205.out; have hcz77_0 : w75.cell? ⟨gb205, 0, none⟩ = some (.int .i64 0) := (blk_cell BK205.out 0).trans rfl; have hcz77_1 : w75.cell? ⟨gb205, 1, none⟩ = some (.int .i64 0) := (blk_cell BK205.out 1).trans rfl; have hcz77_2 : w75.cell? ⟨gb205, 2, none⟩ = some (.slice none 0 0) := (blk_cell BK205.out 2).trans rfl; have hfz77_0 := blk_frozen BK205.out 0; have hfz77_1 := blk_frozen BK205.out 1; have hfz77_2 := blk_frozen BK205.out 2; obtain ⟨Ao78, co78, eo78⟩ := Kd.R_slice HO199.out; subst eo78))
      go_ret
      exact ⟨by first | rfl | (simp [errW_none, errW_some] <;> rfl) | (simp [*, errW_none, errW_some] <;> rfl), by repeat (first | (with_reducible first | exact HB.out | apply below_alloc | apply pw_below_drewN | apply below_drew1 | refine below_set ?_ GE166.out | refine below_set ?_ GE205.out) | exact HB.out)⟩
 ·replace c2 := Bool.eq_false_iff.mpr c2
  subst c2
  have H1 : (if t167 = 0 then (some false) else (some false)) = some r := by rw [if_neg (show ¬ (false = true) by decide)] at H; exact H
  clear H; have H := H1; clear H1
  by_cases c79 : t167 = 0
  ·rw [if_pos c79] at H
   have c79b0 : (t167 == 0) = true := beq_iff_eq.mpr c79
   have c79b1 : (t167 != 0) = false := bne_eq_false_iff_eq.mpr c79
   clear c79
   obtain rfl := Option.some.inj H
   go_enter Try.func46, Try.ntmps46
   go_wp2_with (first | ((with_reducible refine gate_callee (f := 59) rfl ?_); refine goesL_ (some 5) rfl rfl Try.func59 q5_12 rfl #[.int .i64 3, .int .i64 1] rfl q5_2 ?_; (with_reducible refine (grid_New.calls k 3 1 false t161 t162 t163 t167 _ A1.out).mono ?_); rintro e w80 ⟨v164, gb166, rfl, ho0, hbn, hgn, hb⟩; refine ⟨_, rfl, ?_⟩; have n0_ := A5_ (Kd.R_lower ho0 (below_size q5_8)); have n1_ := A5_ (below_step q5_8 hb); clear HB; have HO165 := n0_; have HB := n1_; clear n0_ n1_; (try simp only [ptrW_true, ptrW_false]); (try clear hbn); (try clear hgn); (try clear hb); (try clear hb2); (try clear hk); (try clear hi); (try clear ho0)))
   go_ret
   exact ⟨by first | rfl | (simp [errW_none, errW_some] <;> rfl) | (simp [*, errW_none, errW_some] <;> rfl), by repeat (first | (with_reducible first | exact HB.out | apply below_alloc | apply pw_below_drewN | apply below_drew1) | exact HB.out)⟩
  ·rw [if_neg c79] at H
   have c79b0 : (t167 == 0) = false := beq_eq_false_iff_ne.mpr c79
   have c79b1 : (t167 != 0) = true := bne_iff_ne.mpr c79
   obtain rfl := Option.some.inj H
   go_enter Try.func46, Try.ntmps46
   go_wp2_with (first | ((with_reducible refine gate_callee (f := 59) rfl ?_); refine goesL_ (some 5) rfl rfl Try.func59 q5_12 rfl #[.int .i64 3, .int .i64 1] rfl q5_2 ?_; (with_reducible refine (grid_New.calls k 3 1 false t161 t162 t163 t167 _ A1.out).mono ?_); rintro e w81 ⟨v164, gb166, rfl, ho0, hbn, hgn, hb⟩; refine ⟨_, rfl, ?_⟩; have n0_ := A5_ (Kd.R_lower ho0 (below_size q5_8)); have n1_ := A5_ (below_step q5_8 hb); clear HB; have HO165 := n0_; have HB := n1_; clear n0_ n1_; (try simp only [ptrW_true, ptrW_false]); (try clear hbn); (try clear hgn); (try clear hb); (try clear hb2); (try clear hk); (try clear hi); (try clear ho0)))
   go_ret
   exact ⟨by first | rfl | (simp [errW_none, errW_some] <;> rfl) | (simp [*, errW_none, errW_some] <;> rfl), by repeat (first | (with_reducible first | exact HB.out | apply below_alloc | apply pw_below_drewN | apply below_drew1) | exact HB.out)⟩

/-! ### batonref10_Size: function 58 -/
def batonref10_Size.f (a0 : Int) (a1 : Int) : Option (Bool) := if a0 ≥ 1 then (if a0 ≤ 60 then (if a1 ≥ 1 then (some (decide (a1 ≤ 132))) else (some false)) else (some false)) else (some false)
set_option maxHeartbeats 8000000 in
set_option maxRecDepth 100000 in
theorem batonref10_Size.calls (a0 : Int) (a1 : Int) (r : Bool) (w : World) (h : batonref10_Size.f a0 a1 = some r) :
  Calls Try.prog 58 #[.int .i64 a0, .int .i64 a1] w fun e w' => e = .returned (.bool r) ∧ Drawn0 w w' := by
 have H : (if a0 ≥ 1 then (if a0 ≤ 60 then (if a1 ≥ 1 then (some (decide (a1 ≤ 132))) else (some false)) else (some false)) else (some false)) = some r := h
 clear h
 by_cases c3 : a0 ≥ 1
 ·rw [if_pos c3] at H
  have c3b0 : decide (1 ≤ a0) = true := decide_eq_true c3
  clear c3
  by_cases c4 : a0 ≤ 60
  ·rw [if_pos c4] at H
   have c4b0 : decide (a0 ≤ 60) = true := decide_eq_true c4
   clear c4
   by_cases c5 : a1 ≥ 1
   ·rw [if_pos c5] at H
    have c5b0 : decide (1 ≤ a1) = true := decide_eq_true c5
    clear c5
    obtain rfl := Option.some.inj H
    go_enter Try.func58, Try.ntmps58
    go_wp2
    go_ret
    exact ⟨by first | rfl | (simp; done) | (simp [*]; done), by repeat (first | exact Drawn0.refl _ | apply Drawn0.step)⟩
   ·rw [if_neg c5] at H
    have c5b0 : decide (1 ≤ a1) = false := decide_eq_false c5
    clear c5
    obtain rfl := Option.some.inj H
    go_enter Try.func58, Try.ntmps58
    go_wp2
    go_ret
    exact ⟨by first | rfl | (simp; done) | (simp [*]; done), by repeat (first | exact Drawn0.refl _ | apply Drawn0.step)⟩
  ·rw [if_neg c4] at H
   have c4b0 : decide (a0 ≤ 60) = false := decide_eq_false c4
   clear c4
   obtain rfl := Option.some.inj H
   go_enter Try.func58, Try.ntmps58
   go_wp2
   go_ret
   exact ⟨by first | rfl | (simp; done) | (simp [*]; done), by repeat (first | exact Drawn0.refl _ | apply Drawn0.step)⟩
 ·rw [if_neg c3] at H
  have c3b0 : decide (1 ≤ a0) = false := decide_eq_false c3
  clear c3
  obtain rfl := Option.some.inj H
  go_enter Try.func58, Try.ntmps58
  go_wp2
  go_ret
  exact ⟨by first | rfl | (simp; done) | (simp [*]; done), by repeat (first | exact Drawn0.refl _ | apply Drawn0.step)⟩

end Go.Proofs.Ytkckojgjkmcokaa.PF10A
