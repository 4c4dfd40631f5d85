/- Small lemmas for the contracts that are written by hand: a nil slice that reads as a list, a new row that reads as a list. No condition. -/
import Derived.Test.YtdbfclfglpbpmaaWMore
import Derived.Test.YtdbfclfglpbpmaaWWords
import Derived.Test.YtdbfclfglpbpmaaWApart
import Derived.Test.YtdbfclfglpbpmaaWN
import Derived.Test.YtdbfclfglpbpmaaWLast
import Derived.WalkSpells
import Derived.Lib.SliceRun
import Derived.Lib.SlBytesConst
import Derived.Shelf.Abstract
import Derived.Lib.AppendZerosOnto
import Derived.Lib.Overlaps
import Derived.Deep.RegionLaw
import Derived.Laws.Externs
namespace Go.Proofs.YtdbfclfglpbpmaaW.Hand
open Go.RowKit Go.Proofs.YtdbfclfglpbpmaaW.PrintWords Go.Proofs.YtdbfclfglpbpmaaW.PrintMore
set_option linter.unusedVariables false

theorem C_none {α : Type} {d : Kd α} {w : World} {n : Nat} {xs : List α} (h : Kd.C d w none n xs) : xs = [] := by
  rcases Nat.eq_zero_or_pos n with h0 | h0
  · exact List.length_eq_zero_iff.1 (h.1.trans h0)
  · obtain ⟨ad, e, _⟩ := h.2.2 h0
    cases e
/-- A new block of whole numbers, marked or not, reads as a list. -/
theorem C_new (W : World) (k : IntKind) (e : TypeId) (fr : Nat × Nat) (xs : List Int) (cs : Array Value) (hcs : cs = (xs.map (Value.int k)).toArray) (hm : xs.length ≤ 9223372036854775807) :
    Kd.C (Kd.int k) (W.alloc (.cells cs e fr)) (some ⟨W.heap.size, 0, none⟩) xs.length xs := by
  subst hcs
  refine ⟨rfl, hm, fun _ => ⟨_, rfl, fun j p hj => ⟨[.int k p], rfl, rfl, fun i u hi => ?_⟩⟩⟩
  have hi0 : i = 0 := by
    have := (List.getElem?_eq_some_iff.1 hi).1
    simp at this
    omega
  subst hi0
  have hu : Value.int k p = u := by simpa using hi
  subst hu
  have h1 : (Addr.mk W.heap.size 0 none).add (j * (Kd.int k).sz + 0) = ⟨W.heap.size, j, none⟩ := by rw [add_plain]; show (⟨_, j * 1 + 0, none⟩ : Addr) = _; rw [Nat.mul_one, Nat.add_zero]
  rw [h1]
  have hb : (W.alloc (.cells (xs.map (Value.int k)).toArray e fr)).heap[W.heap.size]? = some (.cells (xs.map (Value.int k)).toArray e fr) := heap_alloc_new W _
  rw [cell_of_row _ _ j _ e fr hb]
  simp [hj]
/-- A literal of bytes and, behind it, its mark ('[]byte("constant")'): a new row that is only read from there on. -/
theorem V_litc {P : Program} {ops : Array Oper} {rest : List Oper} {o o2 : Oper} {a : Act} {Q : Exit → Act → World → Prop} {w0 W : World} (base e : Nat) (t : TypeId) (ht : P.underlying t = some (.slice e)) (he : P.underlying e = some (.int .u8))
    (hgd : o.guard = none) {N : Tmp} (hd : o.dst = some N) (hgd2 : o2.guard = none) (ho2 : o2.op = .convert t t (.tmp N)) (hev : ∀ v, (a.put o.dst v).eval (.tmp N) = v) {xs : List Int} {inner : Array Value} (hin : inner = (xs.map (Value.int .u8)).toArray) {ok : Nat → Prop}
    (hrun : (execOp a.eval o).run P W = .ok (.value (.slice (some ⟨W.heap.size, 0, none⟩) xs.length xs.length)) (W.alloc (.cells inner e)))
    (hfresh : ok W.heap.size) (HB : Below base w0 W) (hbase : base ≤ W.heap.size) (hm : xs.length ≤ 9223372036854775807)
    (h : ∀ v1 w1, Kd.V (Kd.int .u8) e w1 base ok v1 xs → Below base w0 w1 → W.grownBy w1 none → (∃ b, v1.ownBlock = some b ∧ W.heap.size ≤ b) → wpList P ops Q rest ((a.put o.dst v1).put o2.dst v1) w1) : wpList P ops Q (o :: o2 :: rest) a W := by
  refine Kd.event_run hgd hrun (Kd.event_run (w1 := W.alloc (.cells inner e (inner.size, inner.size + 1))) (v := .slice (some ⟨W.heap.size, 0, none⟩) xs.length xs.length) hgd2 ?_ (h _ _ ⟨_, _, rfl, Nat.le_refl _, fun W' hW => ?_⟩ (HB.alloc hbase _) (World.grownBy_alloc W _ none) ⟨W.heap.size, by simp [Value.ownBlock], Nat.le_refl _⟩))
  · have hk := Lib.run_convert_bytes_const (P := P) W t e inner xs.length xs.length ht he
    simp only [execOp, ho2, hev, Sem.run_bind, hk, Result.andThen_ok, Sem.run_pure]
  · have hc := C_new W .u8 e (inner.size, inner.size + 1) xs inner hin hm
    have hb : W'.heap[W.heap.size]? = (W.alloc (.cells inner e (inner.size, inner.size + 1))).heap[W.heap.size]? := hW W.heap.size hfresh (by simp)
    refine ⟨hc.1, hc.2.1, fun hn => ?_⟩
    obtain ⟨ad, ead, hj⟩ := hc.2.2 hn
    refine ⟨ad, ead, fun j p hjp => ?_⟩
    obtain ⟨c, h1, h2, h3⟩ := hj j p hjp
    refine ⟨c, h1, h2, fun i u hu => ?_⟩
    injection ead with ead
    subst ead
    have h4 := h3 i u hu
    rw [add_plain] at h4 ⊢
    simp only [World.cell?] at h4 ⊢
    rw [hb]
    exact h4
/-- make([]T, 0, m): an empty row of one's own, with room. -/
theorem R_makecap {α : Type} {P : Program} {ops : Array Oper} {rest : List Oper} {o : Oper} {a : Act} {Q : Exit → Act → World → Prop} (d : Kd α) {w0 W : World} (base e : Nat) (hgd : o.guard = none) {N : Tmp} (hd : o.dst = some N) (t : TypeId) (x y : Operand) (ho : o.op = .makeSlice t x y) (n : Int) (hx : a.eval x = .int .i64 0) (hy : a.eval y = .int .i64 n)
    (ht : P.underlying t = some (.slice e)) (z : Value) (bytes : Nat) (hinfo : (P.info? e).map (fun i => (i.zero, i.size, i.bytes)) = some (some z, d.sz, bytes)) (hz : z.cells.size = d.sz) (hs0 : 0 < d.sz) (hb0 : 0 < bytes)
    {ok okp : Nat → Prop} (hok : ∀ k, okp k → ok k) (hfresh : ok W.heap.size) (h0 : 0 ≤ n) (hl : n.toNat * bytes ≤ 281474976710656) (HB : Below base w0 W) (hbase : base ≤ W.heap.size)
    (h : ∀ v1 w1, d.R e w1 base ok v1 ([] : List α) → Below base w0 w1 → W.grownBy w1 none → (∃ b, v1.ownBlock = some b ∧ W.heap.size ≤ b) → wpList P ops Q rest (a.put o.dst v1) w1) : wpList P ops Q (o :: rest) a W := by
  obtain ⟨m, rfl⟩ := Int.eq_ofNat_of_zero_le h0
  simp only [Int.toNat_natCast] at hl
  obtain ⟨i0, hi, hzz⟩ := Option.map_eq_some_iff.1 hinfo
  simp only [Prod.mk.injEq] at hzz
  obtain ⟨hz0, hz1, hz2⟩ := hzz
  have hm : m ≤ 281474976710656 := Nat.le_trans (Nat.le_mul_of_pos_right _ hb0) hl
  have hr := run_make (P := P) W t e i0 z ht hi hz0 .i64 .i64 0 (m : Int) (by omega) (by omega)
    (by
      have h3 : ((i0.bytes * m : Nat) : Int) ≤ 281474976710656 := by rw [hz2, Nat.mul_comm]; omega
      rwa [Int.natCast_mul] at h3) (by omega)
  simp only [Int.toNat_natCast, Int.toNat_zero] at hr
  rw [hz1] at hr
  refine Kd.event_run hgd (w1 := W.alloc (.cells (madeCells z.cells (m * d.sz)) e)) (v := .slice (some ⟨W.heap.size, 0, none⟩) 0 m) ?_ (h _ _ ⟨fun k hk => ?_, [], ?_, Reps.none _ _⟩ (HB.alloc hbase _) (World.grownBy_alloc W _ none) ⟨W.heap.size, by simp [Value.ownBlock], Nat.le_refl _⟩)
  · simp [execOp, ho, hx, hy, hr]
  · have : W.heap.size = k := by simpa [Value.ownBlock] using hk
    subst this
    exact hfresh
  · have h2 := World.ownsRow_lit (base := base) (e := e) (size := d.sz) W (madeCells z.cells (m * d.sz)) m hbase (by unfold maxLen; omega) (by simp [size_madeCells])
    have h3 := own_take (m := 0) h2 (Nat.zero_le _)
    simpa using h3
/-- .. whose elements may lead to what is shared. -/
theorem N_makecap {α : Type} {P : Program} {ops : Array Oper} {rest : List Oper} {o : Oper} {a : Act} {Q : Exit → Act → World → Prop} (d : Kd α) {w0 W : World} (base e : Nat) (hgd : o.guard = none) {N' : Tmp} (hd : o.dst = some N') (t : TypeId) (x y : Operand) (ho : o.op = .makeSlice t x y) (n : Int) (hx : a.eval x = .int .i64 0) (hy : a.eval y = .int .i64 n)
    (ht : P.underlying t = some (.slice e)) (z : Value) (bytes : Nat) (hinfo : (P.info? e).map (fun i => (i.zero, i.size, i.bytes)) = some (some z, d.sz, bytes)) (hz : z.cells.size = d.sz) (hs0 : 0 < d.sz) (hb0 : 0 < bytes)
    {ok okp : Nat → Prop} (hok : ∀ k, okp k → ok k) (hfresh : ok W.heap.size) (h0 : 0 ≤ n) (hl : n.toNat * bytes ≤ 281474976710656) (HB : Below base w0 W) (hbase : base ≤ W.heap.size)
    (h : ∀ v1 w1, Kd.N d e w1 base ok v1 ([] : List α) → Below base w0 w1 → W.grownBy w1 none → (∃ b, v1.ownBlock = some b ∧ W.heap.size ≤ b) → wpList P ops Q rest (a.put o.dst v1) w1) : wpList P ops Q (o :: rest) a W :=
  R_makecap d base e hgd hd t x y ho n hx hy ht z bytes hinfo hz hs0 hb0 hok hfresh h0 hl HB hbase (fun v1 w1 hr => h v1 w1 (Kd.R_N hr))
theorem S_makecap {α : Type} {P : Program} {ops : Array Oper} {rest : List Oper} {o : Oper} {a : Act} {Q : Exit → Act → World → Prop} (d : Kd α) {w0 W : World} (base e : Nat) (hgd : o.guard = none) {N : Tmp} (hd : o.dst = some N) (t : TypeId) (x y : Operand) (ho : o.op = .makeSlice t x y) (n : Int) (hx : a.eval x = .int .i64 0) (hy : a.eval y = .int .i64 n)
    (ht : P.underlying t = some (.slice e)) (z : Value) (bytes : Nat) (hinfo : (P.info? e).map (fun i => (i.zero, i.size, i.bytes)) = some (some z, d.sz, bytes)) (hz : z.cells.size = d.sz) (hs0 : 0 < d.sz) (hb0 : 0 < bytes)
    {ok okp : Nat → Prop} (hok : ∀ k, okp k → ok k) (hfresh : ok W.heap.size) (h0 : 0 ≤ n) (hl : n.toNat * bytes ≤ 281474976710656) (HB : Below base w0 W) (hbase : base ≤ W.heap.size)
    (h : ∀ v1 w1, Kd.S d e w1 base ok v1 ([] : List α) → Below base w0 w1 → W.grownBy w1 none → (∃ b, v1.ownBlock = some b ∧ W.heap.size ≤ b) → wpList P ops Q rest (a.put o.dst v1) w1) : wpList P ops Q (o :: rest) a W :=
  R_makecap (Kd.bare d) base e hgd hd t x y ho n hx hy ht z bytes hinfo hz hs0 hb0 (ok := ok) (okp := ok) (fun _ hk => hk) hfresh h0 hl HB hbase (fun v1 w1 hr => h v1 w1 (Kd.S_bare (xs := []) hr))
/-- A string made of a row that is shared. -/
theorem V_string {P : Program} {w : World} {src dst e' e base : Nat} {ok : Nat → Prop} {v : Value} {xs : List Int} (hs : P.underlying src = some (.slice e')) (he : P.underlying e' = some (.int .u8)) (hd : P.underlying dst = some .string)
    (h : Kd.V (Kd.int .u8) e w base ok v xs) : (convert src dst v).run P w = .ok (.string (strOfNums xs)) w := by
  obtain ⟨A, c, rfl, hl, hF⟩ := h
  exact Kd.C_string hs he hd (Kd.V_reads' (Kd.V_mk (e := e) (base := base) hl hF)).2.2
end Go.Proofs.YtdbfclfglpbpmaaW.Hand
