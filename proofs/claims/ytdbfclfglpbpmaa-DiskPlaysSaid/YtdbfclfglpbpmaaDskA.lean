/- A disk, as it lies in memory. No condition. -/
import Derived.Test.YtdbfclfglpbpmaaLF21
import Derived.Test.YtdbfclfglpbpmaaGenD
namespace Go.Proofs.Ytdbfclfglpbpmaa.Dsk
open Go.AnyFacts Go.Proofs.Ytdbfclfglpbpmaa.Sha Go.RowKit Go.Proofs.YtdbfclfglpbpmaaW.Hand Go.Proofs.YtdbfclfglpbpmaaW.PrintWords Go.Proofs.YtdbfclfglpbpmaaW.PrintLast Go.Proofs.YtdbfclfglpbpmaaW.PrintMore Go.Proofs.Ytdbfclfglpbpmaa.PF21 Go.Proofs.Ytdbfclfglpbpmaa.Base Go.Proofs.Ytdbfclfglpbpmaa.LF21
attribute [local go_sem] max2_int min2_int max_two min_two max_three min_three max_four min_four
set_option linter.unusedVariables false
set_option linter.unusedSimpArgs false
/-- copy of whole elements, into a row that has room for them. -/
theorem run_copy_sz {P : Program} (w : World) (dT sT ty elem : TypeId) (b o dLen dCap : Nat) (a : Addr) (sLen sCap size m : Nat) (cs : List Value) (hu : P.underlying dT = some (.slice elem)) (hs : (P.info? elem).map (·.size) = some size) (hm : Nat.min sLen dLen = m) (hn : cs.length = m * size)
    (hsrc : ∀ j v, cs[j]? = some v → w.cell? (a.add j) = some v) (hsp : ∀ j, j < cs.length → (w.cell? ⟨b, o + j, none⟩).isSome = true) (hfz : ∀ j, j < cs.length → w.frozen? ⟨b, o + j, none⟩ = false) (h1 : ∀ v ∈ cs, v.oneCell' = true) :
    (Builtin.copy_ #[dT, sT] ty #[.slice (some ⟨b, o, none⟩) dLen dCap, .slice (some a) sLen sCap]).run P w = .ok (goInt m) (w.setCells b o cs) := by
  have hl := run_loadCells_list (P := P) w a cs hsrc
  have hst := run_storeCells_cells (P := P) b o cs 0 w (by simpa using hsp) (by simpa using hfz) h1
  simp only [Nat.add_zero] at hst
  cases hq : P.info? elem with
  | none => simp [hq] at hs
  | some i =>
    have hi : i.size = size := by simpa [hq] using hs
    rw [hn] at hl
    simp [Builtin.copy_, run_underlying hu, Builtin.lenOf, Builtin.firstCells, sizeOf, typeInfo, hq, hi, hm, hl, hst]
/-- One operation 'copy' whose run is known, in a region that draws. -/
theorem step_copy_known {P : Program} {ops : Array Oper} {o : Oper} {a : Act} {w : World} {K : Act → World → Prop} {Q : Exit → Act → World → Prop} {E : Prop}
    (hg : o.guard = none) (d x : Operand) (dT sT : TypeId) (hop : o.op = Op.call { callee := Callee.builtin Builtin.copy, args := #[d, x], argTypes := #[dT, sT] })
    (v u : Value) (hd : a.eval d = v) (hx : a.eval x = u) {v' : Value} {w' : World} (hr : (Builtin.copy_ #[dT, sT] o.type #[v, u]).run P w = .ok v' w') (hK : K (a.put o.dst v') w') :
    if Region.wanted o (yielded ops a.tmps) = true then Oper.wp P o a w K Q else E := by
  rw [if_pos (by simp [Region.wanted, hg])]
  simp [Oper.wp, execOp, hop, resolve, invoke, builtin, hd, hx, hr, Result.andThen]
  exact hK
/-- Cells that say what a row's elements are, as a row of one's own. -/
theorem R_ofcells {α : Type} {d : Kd α} {e base g cap : Nat} {w W : World} {ok ok1 : Nat → Prop} {b1 : Nat} {xs : List α} {inner : List Value} (hM : ∀ (w w' : World) (b b' : Nat) (ok ok' : Nat → Prop) (x : α) (c : List Value), d.M w b ok x c → d.M w' b' ok' x c)
    (hr : Reps (d.M w b1 ok1) d.sz xs inner) {cur : Array Value} (hb : base ≤ g) (hh : W.heap[g]? = some (.cells cur e (0, 0))) (hnc : xs.length ≤ cap) (hcm : cap ≤ maxLen) (hcs : cur.size = cap * d.sz) (ht : cur.toList.take (xs.length * d.sz) = inner) (hok : ok g) :
    d.R e W base ok (.slice (some ⟨g, 0, none⟩) xs.length cap) xs := by
  refine ⟨fun k hk => ?_, inner, ⟨hr.1, .inr ⟨g, cap, cur, rfl, hb, hh, hnc, hcm, hcs, ht⟩⟩, hr.imp_ (fun x c h => hM _ _ _ _ _ _ x c h)⟩
  have : g = k := by simpa [Value.ownBlock] using hk
  subst this
  exact hok
theorem cells_over {z n d m : Nat} {cur cs : List Value} (hl : n * z ≤ cur.length) (hd : d + m ≤ n) (hc : cs.length = m * z) :
    (cur.take (d * z) ++ cs ++ cur.drop (d * z + cs.length)).take (n * z) = (cur.take (n * z)).take (d * z) ++ cs ++ (cur.take (n * z)).drop ((d + m) * z) := by
  have e1 : (d + m) * z = d * z + m * z := Nat.add_mul _ _ _
  have e2 : (d + m) * z ≤ n * z := Nat.mul_le_mul_right _ hd
  have h1 : (cur.take (d * z)).length = d * z := by rw [List.length_take]; omega
  rw [List.take_append, List.take_of_length_le (l := cur.take (d * z) ++ cs) (by rw [List.length_append, h1, hc]; omega), List.take_take, Nat.min_eq_left (by omega), List.drop_take, List.length_append, h1, hc, e1]
theorem copy_own {P : Program} {α : Type} {k : Kd α} (flat : ∀ (w w' : World) (b b' : Nat) (ok ok' : Nat → Prop) (x : α) (c : List Value), k.M w b ok x c → k.M w' b' ok' x c) (hKM : ∀ (w : World) (b : Nat) (ok : Nat → Prop) (x : α) (c : List Value), k.K w x c → k.M w b ok x c)
    {e base : Nat} {ok : Nat → Prop} {w : World} {A : Option Addr} {n c : Nat} {l : List α} (hR : k.R e w base ok (.slice A n c) l)
    {B : Option Addr} {m : Nat} {xs : List α} (hC : k.C w B m xs) (hz : 0 < k.sz) (dT sT : TypeId) (hu : P.underlying dT = some (.slice e)) {i0 : TypeInfo} (hi : P.info? e = some i0) (hsz : i0.size = k.sz) (d dl dc sl sc : Nat) (hm : Nat.min sl dl = m) (hm0 : 0 < m) (hd : d + m ≤ l.length) (D : Option Addr) (hD : D = if c = d then A else A.map (·.add (d * k.sz))) :
    ∃ w2, (∀ ty, (Builtin.copy_ #[dT, sT] ty #[.slice D dl dc, .slice B sl sc]).run P w = .ok (goInt m) w2) ∧ k.R e w2 base ok (.slice A n c) (l.take d ++ xs ++ l.drop (d + m)) ∧ (w2.os = w.os ∧ w2.tape = w.tape ∧ w2.output = w.output ∧ w2.heap.size = w.heap.size) ∧ ∀ j, (¬ ok j ∨ j < base) → w2.heap[j]? = w.heap[j]? := by
  obtain ⟨hok, inner, hown, hr⟩ := hR
  rcases hown.2 with ⟨_, hn⟩ | ⟨g, cap, cur, hv, hb, hh, hnn, hcm, hcs, ht⟩
  · omega
  injection hv with ha hl hcc
  subst ha; subst hcc; subst hl
  have hcd : ¬ c = d := by omega
  rw [if_neg hcd, Option.map_some, add_plain] at hD
  subst hD
  obtain ⟨ad, rfl, _⟩ := hC.2.2 hm0
  have hxl := hC.1
  obtain ⟨cs, hcr, hcc⟩ := ReadsRow.inner_ hC
  have hcl : cs.length = m * k.sz := by rw [hcr.1, hxl]
  have hcurl : cur.toList.length = cur.size := Array.length_toList
  have hle : l.length * k.sz ≤ c * k.sz := Nat.mul_le_mul_right _ hnn
  have hdm : d * k.sz + m * k.sz ≤ l.length * k.sz := by rw [← Nat.add_mul]; exact Nat.mul_le_mul_right _ hd
  have h1 : ∀ v ∈ cs, v.oneCell' = true := Kd.reps_one hcr hz (fun _ _ hp => k.K_one hp)
  have hrun := fun ty => run_copy_sz (P := P) w dT sT ty e g (d * k.sz) dl dc ad sl sc k.sz m cs hu (by rw [hi]; simp [hsz]) hm hcl (fun j v hj => hcc j v hj)
    (fun j hj => by rw [cell_of_row w g _ cur e (0, 0) hh, Array.getElem?_eq_getElem (by omega)]; rfl) (fun j hj => blk_frozen hh _) h1
  obtain ⟨cur', e1, e2, e3⟩ := setCells_row cs (d * k.sz) w cur hh (by omega)
  have hfar := fun j hj => setCells_far (g := g) cs (d * k.sz) (w := w) j hj
  have hsame := setCells_same g cs (d * k.sz) w
  have hrall : Reps (k.M w base (fun _ => True)) k.sz (l.take d ++ xs ++ l.drop (d + m)) (inner.take (d * k.sz) ++ cs ++ inner.drop ((d + m) * k.sz)) :=
    Kd.reps_append (Kd.reps_append (Kd.reps_take (hr.imp_ (fun x c h => flat _ _ _ _ _ _ x c h)) (by omega)) (hcr.imp_ (fun x c h => hKM _ _ _ x c h))) (Kd.reps_drop (hr.imp_ (fun x c h => flat _ _ _ _ _ _ x c h)))
  have hlen : (l.take d ++ xs ++ l.drop (d + m)).length = l.length := by rw [List.length_append, List.length_append, List.length_take, List.length_drop, hxl]; omega
  have hover := cells_over (z := k.sz) (n := l.length) (d := d) (m := m) (cur := cur.toList) (cs := cs) (by omega) hd hcl
  rw [← e3] at hover
  rw [show cur.toList.take (l.length * k.sz) = inner from ht] at hover
  refine ⟨_, hrun, ?_, hsame, fun j hj => ?_⟩
  · have h := R_ofcells (d := k) (e := e) (base := base) (g := g) (cap := c) (W := w.setCells g (d * k.sz) cs) (ok := ok) flat hrall hb e1 (by rw [hlen]; exact hnn) hcm (by rw [e2]; exact hcs) (by rw [hlen]; exact hover) (hok g rfl)
    rw [hlen] at h
    exact h
  · refine hfar j (fun e => ?_)
    subst e
    rcases hj with hj | hj
    · exact hj (hok j rfl)
    · omega


theorem flatB (w w' : World) (b b' : Nat) (ok ok' : Nat → Prop) (x : Int) (c : List Value) (h : (Kd.int .u8).M w b ok x c) : (Kd.int .u8).M w' b' ok' x c := h
theorem KMB (w : World) (b : Nat) (ok : Nat → Prop) (x : Int) (c : List Value) (h : (Kd.int .u8).K w x c) : (Kd.int .u8).M w b ok x c := h
theorem below_of_drawn {w w' : World} (h : Drawn0 w w') : Below w.heap.size w w' := by
  obtain ⟨n, rfl⟩ := h
  exact pw_below_drewN (Below.refl _ _) n
/-- Where the rows of a disk's blocks lie. -/
def OB (B M0 g : Nat) (dv : Value) (k : Nat) : Prop := B ≤ k ∧ k < M0 ∧ k ≠ g ∧ some k ≠ dv.ownBlock
/-- What a disk's operations may write. -/
def Mut (B M0 g : Nat) (dv wv : Value) (k : Nat) : Prop := k = g ∨ OB B M0 g dv k ∨ some k = wv.ownBlock
/-- A disk, as it lies in memory. -/
structure DSt (B M0 g : Nat) (bv dv wv : Value) (bl : List (List Int)) (wt : List S154) (bad : List Int) (down : Bool) (left : Int) (w : World) : Prop where
  blk : w.heap[g]? = some (.cells #[bv, wv, dv, .bool down, .int .i64 left] 150 (0, 0))
  blocks : Kd.S (Kd.slice 5 (Kd.int .u8)) 22 w B (OB B M0 g dv) bv bl
  waits : Kd.R k154 154 w M0 (fun k => M0 ≤ k) wv wt
  badr : Kd.R (Kd.int .i64) 3 w B (fun k => k < M0 ∧ k ≠ g) dv bad
  gB : B ≤ g ∧ g < M0 ∧ M0 ≤ w.heap.size
/-- Behind some operations of a disk. -/
structure Stp (B M0 g : Nat) (dv wv : Value) (w w' : World) : Prop where
  below : Below B w w'
  kept : Kept w w' (Mut B M0 g dv wv)
section
variable {B M0 g : Nat} {bv dv wv wv' : Value} {bl : List (List Int)} {wt : List S154} {bad : List Int} {down : Bool} {left : Int} {w w1 w2 : World}
theorem DSt.below (s : DSt B M0 g bv dv wv bl wt bad down left w) (hb : Below w.heap.size w w1) : DSt B M0 g bv dv wv bl wt bad down left w1 :=
  ⟨blk_below s.blk hb, Kd.S_below s.blocks hb, Kd.R_below s.waits hb, Kd.R_below s.badr hb, s.gB.1, s.gB.2.1, Nat.le_trans s.gB.2.2 hb.size⟩
theorem DSt.drew (s : DSt B M0 g bv dv wv bl wt bad down left w) : DSt B M0 g bv dv wv bl wt bad down left w.drew := s.below (below_drew (Below.refl _ _))
theorem DSt.drewN (s : DSt B M0 g bv dv wv bl wt bad down left w) (m : Nat) : DSt B M0 g bv dv wv bl wt bad down left (w.drewN m) := s.below (pw_below_drewN (Below.refl _ _) m)
theorem DSt.cell0 (s : DSt B M0 g bv dv wv bl wt bad down left w) : w.cell? ⟨g, 0, none⟩ = some bv := (blk_cell s.blk 0).trans rfl
theorem DSt.cell1 (s : DSt B M0 g bv dv wv bl wt bad down left w) : w.cell? ⟨g, 1, none⟩ = some wv := (blk_cell s.blk 1).trans rfl
theorem DSt.cell2 (s : DSt B M0 g bv dv wv bl wt bad down left w) : w.cell? ⟨g, 2, none⟩ = some dv := (blk_cell s.blk 2).trans rfl
theorem DSt.cell3 (s : DSt B M0 g bv dv wv bl wt bad down left w) : w.cell? ⟨g, 3, none⟩ = some (.bool down) := (blk_cell s.blk 3).trans rfl
theorem DSt.cell4 (s : DSt B M0 g bv dv wv bl wt bad down left w) : w.cell? ⟨g, 4, none⟩ = some (.int .i64 left) := (blk_cell s.blk 4).trans rfl
/-- A field of the disk is written. -/
theorem DSt.set (s : DSt B M0 g bv dv wv bl wt bad down left w) {down' : Bool} {left' : Int} (j : Nat) (u : Value) (hu : (#[bv, wv, dv, .bool down, .int .i64 left] : Array Value).setIfInBounds j u = #[bv, wv', dv, .bool down', .int .i64 left']) {wt' : List S154} (hw : Kd.R k154 154 w M0 (fun k => M0 ≤ k) wv' wt') : DSt B M0 g bv dv wv' bl wt' bad down' left' (w.setCell ⟨g, j, none⟩ u) := by
  have hg := s.gB
  refine ⟨(blk_set s.blk j u).trans (by rw [hu]), Kd.S_far s.blocks (p := ⟨g, j, none⟩) (fun k hk => hk.2.2.1) u, Kd.R_far (p := ⟨g, j, none⟩) hw (fun k hk => ?_) u, Kd.R_far (p := ⟨g, j, none⟩) s.badr (fun k hk => hk.2) u, hg.1, hg.2.1, Nat.le_trans hg.2.2 ?_⟩
  · have hk' : M0 ≤ k := hk
    show k ≠ g
    omega
  · rw [World.size_setCell]; exact Nat.le_refl _
theorem Stp.refl (B M0 g : Nat) (dv wv : Value) (w : World) : Stp B M0 g dv wv w w := ⟨Below.refl _ _, Nat.le_refl _, fun _ _ _ => rfl⟩
theorem Stp.then_ (h : Stp B M0 g dv wv w w1) (hB : B ≤ w1.heap.size) (hb : Below w1.heap.size w1 w2) : Stp B M0 g dv wv w w2 :=
  ⟨below_then h.below hB hb, Nat.le_trans h.kept.1 hb.size, fun k hk hn => (hb.block k (Nat.lt_of_lt_of_le hk h.kept.1)).trans (h.kept.2 k hk hn)⟩
theorem Stp.join {wv' : Value} (h : Stp B M0 g dv wv w w1) (h2 : Stp B M0 g dv wv' w1 w2) (hn : ∀ k, some k = wv'.ownBlock → some k = wv.ownBlock ∨ w.heap.size ≤ k) : Stp B M0 g dv wv w w2 :=
  ⟨h.below.trans h2.below, h.kept.then_ h2.kept (fun k hk => hk.elim (fun e => .inl (.inl e)) (fun hk => hk.elim (fun e => .inl (.inr (.inl e))) (fun e => (hn k e).imp (fun e => .inr (.inr e)) id)))⟩
theorem Stp.setg (h : Stp B M0 g dv wv w w1) (hg : B ≤ g) (j : Nat) (u : Value) : Stp B M0 g dv wv w (w1.setCell ⟨g, j, none⟩ u) :=
  ⟨h.below.setCell hg u, by rw [World.size_setCell]; exact h.kept.1, fun k hk hn => (Below.heap_setCell w1 ⟨g, j, none⟩ u k (fun e => hn (.inl e))).trans (h.kept.2 k hk hn)⟩
end

end Go.Proofs.Ytdbfclfglpbpmaa.Dsk
