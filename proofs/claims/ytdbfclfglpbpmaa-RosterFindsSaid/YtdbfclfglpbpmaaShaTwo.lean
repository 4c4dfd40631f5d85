/- Hand-written walks and plain lemmas: what each Go function comes to (ShaU, KeyA, KeyB, KeyC, ShaV, ShaW, ShaX, ShaY, KeyD, KeyE, ShaZ, KeyG, KeyF). No condition. -/
import Derived.Test.YtdbfclfglpbpmaaPF25Fx
import Derived.Test.YtdbfclfglpbpmaaLF25F
import Derived.Test.YtdbfclfglpbpmaaShaOne
import Derived.Great.Walk
import Derived.Lib.FrozenHead2
import Derived.Laws.IdiomStrings
import Derived.Laws.Bits64
import Derived.Laws.BitsLemmas
import Derived.StillTailTactics
namespace Go.Proofs.Ytdbfclfglpbpmaa.Sha
open Go.Great Go.RowKit Go.Proofs.YtdbfclfglpbpmaaW.Hand Go.Proofs.YtdbfclfglpbpmaaW.PrintWords Go.Proofs.YtdbfclfglpbpmaaW.PrintLast Go.Proofs.YtdbfclfglpbpmaaW.PrintMore Go.Proofs.Ytdbfclfglpbpmaa.PF25F Go.Proofs.Ytdbfclfglpbpmaa.Base Go.Proofs.Ytdbfclfglpbpmaa.LF25F
set_option linter.unusedVariables false
set_option linter.unusedSimpArgs false

/-! ### literals of slices -/
theorem L_bslice {P : Program} {ops : Array Oper} {rest : List Oper} {o : Oper} {a : Act} {W : World} {Q : Exit → Act → World → Prop} (hgd : o.guard = none) (t e : TypeId) (len : Nat) (parts : Array (Nat × Operand)) (ho : o.op = .buildSlice t len parts) (hu : P.underlying t = some (.slice e)) (cells : Array Value)
    (hf : Go.Program.builtSlice P e len (parts.map fun (i, x) => (i, a.eval x)).toList = some cells)
    (h : ∀ g w1, w1.heap[g]? = some (.cells cells e (0, 0)) → W.heap.size = g → w1.heap.size = g + 1 → Below W.heap.size W w1 → wpList P ops Q rest (a.put o.dst (.slice (some ⟨g, 0, none⟩) len len)) w1) : wpList P ops Q (o :: rest) a W :=
  wpList_buildSliceTo hgd t e len parts ho W.heap.size rfl o.dst rfl hu cells hf (h W.heap.size _ (heap_alloc_new W _) rfl (by show (W.heap.push _).size = _; simp) ((Below.refl _ _).alloc (Nat.le_refl _) _))
theorem C_rows {w : World} {g t : Nat} {vs : List Value} {ps : List (List Int)} (hb : w.heap[g]? = some (.cells vs.toArray t (0, 0))) (hl : vs.length = ps.length) (hn : ps.length ≤ 1000000) (h : ∀ (j : Nat) (v : Value) (l : List Int), vs[j]? = some v → ps[j]? = some l → ∃ A c, v = .slice A l.length c ∧ l.length ≤ c ∧ Kd.C (Kd.int .u8) w A l.length l) : Kd.C (Kd.slice 5 (Kd.int .u8)) w (some ⟨g, 0, none⟩) ps.length ps := by
  refine ⟨rfl, by omega, fun hp => ⟨_, rfl, fun j p hj => ?_⟩⟩
  have hjl : j < vs.length := by rw [hl]; exact (List.getElem?_eq_some_iff.1 hj).1
  obtain ⟨A, c, e, h1, h2⟩ := h j vs[j] p (List.getElem?_eq_getElem hjl) hj
  refine ⟨[.slice A p.length c], rfl, ⟨A, c, rfl, h1, h2⟩, fun i u hu => ?_⟩
  have hi : i = 0 := by
    have := (List.getElem?_eq_some_iff.1 hu).1
    simp at this
    omega
  subst hi
  have e' : Value.slice A p.length c = u := by simpa using hu
  subst e'
  rw [show (Kd.slice 5 (Kd.int .u8)).sz = 1 from rfl, Nat.mul_one, Nat.add_zero, add_plain, blk_cell hb j, List.getElem?_toArray, List.getElem?_eq_getElem hjl, e]
theorem C_rows1 {w : World} {g t : Nat} {A0 : Option Addr} {c0 : Nat} {p0 : List Int} (hb : w.heap[g]? = some (.cells #[.slice A0 p0.length c0] t (0, 0))) (h0 : p0.length ≤ c0) (hC0 : Kd.C (Kd.int .u8) w A0 p0.length p0) : Kd.C (Kd.slice 5 (Kd.int .u8)) w (some ⟨g, 0, none⟩) [p0].length [p0] :=
  C_rows (vs := [.slice A0 p0.length c0]) hb rfl (by simp) (fun j v l h1 h2 => by
    match j with
    | 0 => simp only [List.getElem?_cons_zero, Option.some.injEq] at h1 h2; subst h1 h2; exact ⟨_, _, rfl, h0, hC0⟩
    | n + 1 => simp at h1)
/-- One byte more. -/
theorem QB.push {w W w' : World} {va v' : Value} {xs : List Int} {y : Int} {base : Nat} (hg : Below base w W) (h : QB W base va xs) (hb : base ≤ W.heap.size) (hq : QB w' base v' (xs ++ [y])) (hgr : W.grownBy w' va.ownBlock) : Below base w w' := hg.grown hgr hb (fun k hk => h.base k hk)
end Go.Proofs.Ytdbfclfglpbpmaa.Sha

namespace Go.Proofs.Ytdbfclfglpbpmaa.Sha
open Go.RowKit Go.Proofs.YtdbfclfglpbpmaaW.Hand Go.Proofs.YtdbfclfglpbpmaaW.PrintWords Go.Proofs.YtdbfclfglpbpmaaW.PrintLast Go.Proofs.YtdbfclfglpbpmaaW.PrintMore Go.Proofs.Ytdbfclfglpbpmaa.PF25F Go.Proofs.Ytdbfclfglpbpmaa.Base Go.Proofs.Ytdbfclfglpbpmaa.LF25F
set_option linter.unusedVariables false
set_option linter.unusedSimpArgs false

/-! ### bytes of a string: a row whose block bears a mark behind its last cell -/
theorem run_storeCells_atM (P : Program) (g o : Nat) (t : TypeId) (fz : Nat × Nat) : ∀ (vs : List Value) (i : Nat) (cur : Array Value) (w : World), w.heap[g]? = some (.cells cur t fz) → (fz.2 = 0 ∨ cur.size ≤ fz.1) → o + i + vs.length ≤ cur.size → (∀ v ∈ vs, v.oneCell' = true) →
    (storeCells ⟨g, o, none⟩ vs i).run P w = .ok () (w.setRow g (cur.toList.take (o + i) ++ vs ++ cur.toList.drop (o + i + vs.length)).toArray)
  | [], i, cur, w, hg, _, _, _ => by
    simp only [storeCells, List.append_nil, List.length_nil, Nat.add_zero, List.take_append_drop, Array.toArray_toList]
    rw [setRow_self w g cur t fz hg]
    rfl
  | v :: rest, i, cur, w, hg, hfz, hl, h1 => by
    have hi : o + i < cur.size := by simp at hl; omega
    have hadd : (⟨g, o, none⟩ : Addr).add i = ⟨g, o + i, none⟩ := by unfold Addr.add; split <;> simp_all
    have hcell : w.cell? ⟨g, o + i, none⟩ = some cur[o + i] := by simp [World.cell?, hg, hi]
    have hfro : w.frozen? ⟨g, o + i, none⟩ = false := by
      obtain ⟨lo, hi'⟩ := fz
      simp only [World.frozen?, hg, Bool.and_eq_false_iff, decide_eq_false_iff_not]
      simp only at hfz
      rcases hfz with h | h
      · right; omega
      · left; omega
    have hst : (store ((⟨g, o, none⟩ : Addr).add i) v).run P w = .ok () (w.setRow g (cur.setIfInBounds (o + i) v)) := by
      rw [hadd, run_store P w _ v _ (h1 v (by simp)), hcell]
      simp [hfro, setCell_eq_setRow w g (o + i) cur t fz v hg]
    have ih := run_storeCells_atM P g o t fz rest (i + 1) (cur.setIfInBounds (o + i) v) (w.setRow g (cur.setIfInBounds (o + i) v)) (setRow_heap w g cur _ t _ hg) (by simpa using hfz) (by simp at hl ⊢; omega) (fun x hx => h1 x (by simp [hx]))
    simp only [storeCells, Sem.run_bind, hst, Result.andThen_ok, ih, setRow_setRow]
    congr 3
    have e := list_seg_step cur.toList (o + i) v rest (by simp at hl ⊢; omega)
    simpa [Array.toList_setIfInBounds, Nat.add_assoc] using e
def QM (w : World) (base : Nat) (v : Value) (xs : List Int) : Prop :=
  ∃ g cap cur fz, v = .slice (some ⟨g, 0, none⟩) xs.length cap ∧ base ≤ g ∧ w.heap[g]? = some (.cells cur 5 fz) ∧ (fz.2 = 0 ∨ cur.size ≤ fz.1) ∧ xs.length ≤ cap ∧ cap ≤ maxLen ∧ cur.size = cap ∧ cur.toList.take xs.length = xs.map (Value.int .u8)
theorem QM.slice {w : World} {base : Nat} {v : Value} {xs : List Int} (h : QM w base v xs) : ∃ A c, v = .slice A xs.length c ∧ xs.length ≤ c := by
  obtain ⟨g, cap, cur, fz, rfl, _, _, _, h1, _⟩ := h
  exact ⟨_, _, rfl, h1⟩
theorem QM.lt {w : World} {base : Nat} {v : Value} {xs : List Int} (h : QM w base v xs) : ∀ k, v.ownBlock = some k → base ≤ k ∧ k < w.heap.size := by
  obtain ⟨g, cap, cur, fz, rfl, hb, hg, _⟩ := h
  intro k hk
  simp [Value.ownBlock] at hk
  subst hk
  exact ⟨hb, (Array.getElem?_eq_some_iff.1 hg).1⟩
theorem QM.below {w W : World} {base : Nat} {v : Value} {xs : List Int} (h : QM w base v xs) (hb : Below w.heap.size w W) : QM W base v xs := by
  obtain ⟨g, cap, cur, fz, rfl, hbg, hg, rest⟩ := h
  exact ⟨g, cap, cur, fz, rfl, hbg, (hb.block g (Array.getElem?_eq_some_iff.1 hg).1).trans hg, rest⟩
theorem QM.cells {w : World} {base g cap : Nat} {xs : List Int} (h : QM w base (.slice (some ⟨g, 0, none⟩) xs.length cap) xs) : ∀ (j : Nat) (u : Value), (xs.map (Value.int .u8))[j]? = some u → w.cell? ((⟨g, 0, none⟩ : Addr).add j) = some u := by
  intro j u hu
  obtain ⟨g', cap', cur, fz, e, _, hgg, _, _, _, _, htake⟩ := h
  simp only [Value.slice.injEq, Option.some.injEq, Addr.mk.injEq] at e
  obtain ⟨⟨rfl, _⟩, _, rfl⟩ := e
  have hadd : (⟨g, 0, none⟩ : Addr).add j = ⟨g, j, none⟩ := by unfold Addr.add; split <;> simp_all
  rw [hadd, cell_of_row w g j cur 5 fz hgg]
  rw [← htake, List.getElem?_take] at hu
  split at hu
  · simpa using hu
  · cases hu
theorem QM.C {w : World} {base : Nat} {A : Option Addr} {c : Nat} {xs : List Int} (h : QM w base (.slice A xs.length c) xs) : Kd.C (Kd.int .u8) w A xs.length xs := by
  obtain ⟨g, cap, cur, fz, e, hbg, hg, hfz, hle, hcm, hcs, htake⟩ := id h
  simp only [Value.slice.injEq] at e
  obtain ⟨rfl, _, rfl⟩ := e
  refine ⟨rfl, Nat.le_trans hle hcm, fun hp => ⟨_, rfl, fun j p hj => ⟨[.int .u8 p], rfl, rfl, fun i u hu => ?_⟩⟩⟩
  have hi : i = 0 := by
    have := (List.getElem?_eq_some_iff.1 hu).1
    simp at this
    omega
  subst hi
  have e' : Value.int .u8 p = u := by simpa using hu
  subst e'
  rw [show (Kd.int .u8).sz = 1 from rfl, Nat.mul_one, Nat.add_zero]
  exact h.cells j _ (by rw [List.getElem?_map, hj]; rfl)
theorem QM_run {P : Program} (w : World) (base : Nat) (t ty : TypeId) (ht : P.underlying t = some (.slice 5)) (hinfo : (P.info? 5).map (fun i => (i.zero, i.size, i.bytes)) = some (some (.int .u8 0), 1, 1))
    (v : Value) (xs ys : List Int) (A : Option Addr) (c : Nat) (h : QM w base v xs) (hC : Kd.C (Kd.int .u8) w A ys.length ys) (hp : 0 < ys.length) (hl : xs.length + ys.length ≤ 140737488355328) (hbase : base ≤ w.heap.size) :
    ∃ v' w', (Builtin.append_ #[t, t] ty #[v, .slice A ys.length c]).run P w = .ok v' w' ∧ QM w' base v' (xs ++ ys) ∧ w.grownBy w' v.ownBlock := by
  obtain ⟨i, hi, hzz⟩ := Option.map_eq_some_iff.1 hinfo
  simp only [Prod.mk.injEq] at hzz
  obtain ⟨hz, hsz, hby⟩ := hzz
  obtain ⟨a, rfl, hnews⟩ := C_cells0 hC hp
  obtain ⟨g, cap, cur, fz, rfl, hbg, hg, hfz, hnc, hcm, hcs, htake⟩ := id h
  have hlen : (xs ++ ys).length = xs.length + ys.length := List.length_append
  have hl1 : (nums .u8 ys).length = ys.length * i.size := by rw [nums_length, hsz, Nat.mul_one]
  have h1 : ∀ u ∈ nums .u8 ys, u.oneCell' = true := by intro u hu; simp [nums] at hu; obtain ⟨x, _, rfl⟩ := hu; rfl
  by_cases hroom : xs.length + ys.length ≤ cap
  · have hf := run_firstCells_some (P := P) w i.size ys.length a ys.length c (nums .u8 ys) hl1 hnews
    rw [hsz] at hf
    have hst := run_storeCells_atM P g xs.length 5 fz (nums .u8 ys) 0 cur w hg hfz (by rw [nums_length]; omega) h1
    simp only [Nat.add_zero] at hst
    have hr : (Builtin.append_ #[t, t] ty #[.slice (some ⟨g, 0, none⟩) xs.length cap, .slice (some a) ys.length c]).run P w = .ok (.slice (some ⟨g, 0, none⟩) (xs.length + ys.length) cap) (w.setRow g (cur.toList.take xs.length ++ nums .u8 ys ++ cur.toList.drop (xs.length + (nums .u8 ys).length)).toArray) := by
      simp [Builtin.append_, run_underlying ht, sizeOf, typeInfo, hi, Builtin.lenOf, hroom, hf, Addr.add_lit, hsz, hst]
    refine ⟨_, _, hr, ⟨g, cap, _, fz, by rw [hlen], hbg, setRow_heap w g cur _ 5 _ hg, ?_, by omega, hcm, ?_, ?_⟩, ⟨rfl, rfl, rfl, by simp, fun k _ hk => setRow_other w g k _ (fun e => hk (by simp [Value.ownBlock, e]))⟩⟩
    · rcases hfz with h | h
      · exact .inl h
      · right
        simp only [List.size_toArray, List.length_append, List.length_take, List.length_drop, Array.length_toList, nums_length]
        omega
    · simp only [List.size_toArray, List.length_append, List.length_take, List.length_drop, Array.length_toList, nums_length]
      omega
    · show ((cur.toList.take xs.length ++ nums .u8 ys ++ cur.toList.drop (xs.length + (nums .u8 ys).length))).take (xs ++ ys).length = _
      rw [htake, hlen, List.map_append]
      unfold nums
      rw [List.take_append_of_le_length (by simp), List.take_of_length_le (by simp)]
  · have hr := run_append_grow (P := P) w t ty 5 i (.int .u8 0) ht hi hz ⟨g, 0, none⟩ xs.length cap (xs.map (Value.int .u8)) (by rw [List.length_map, hsz, Nat.mul_one]) h.cells a ys.length c (nums .u8 ys) hl1 hnews (by omega) (by omega) (growslice_fits (by omega) (by rw [hby]; omega))
    have hge := grownCap_ge w (xs.length + ys.length) cap 5
    have hcm2 : grownCap w (xs.length + ys.length) cap 5 ≤ maxLen := grownCap_le_maxLen w (xs.length + ys.length) cap 5 (by simp only [maxLen]; omega)
    refine ⟨_, _, hr, ⟨w.heap.size, _, _, (0, 0), by rw [hlen], hbase, heap_alloc_new w.drew _, .inl rfl, by rw [hlen]; exact hge, hcm2, ?_, ?_⟩, ⟨rfl, rfl, rfl, by simp, fun k hk _ => heap_alloc_old w.drew _ hk⟩⟩
    · simp only [Array.size_append, List.size_toArray, size_zeroCells, List.length_map, nums_length]
      rw [show (Value.int .u8 0).cells.size = 1 from rfl]
      omega
    · simp only [Array.toList_append, hlen, List.map_append]
      unfold nums
      rw [List.take_append_of_le_length (by simp), List.take_of_length_le (by simp)]
section
variable {P : Program} {ops : Array Oper} {rest : List Oper} {o : Oper} {a : Act} {W : World} {Q : Exit → Act → World → Prop}
theorem L_appendM (hgd : o.guard = none) (s x : Operand) (t : TypeId) (ho : o.op = .call { callee := .builtin .append, args := #[s, x], argTypes := #[t, t] }) (ht : P.underlying t = some (.slice 5)) (hinfo : (P.info? 5).map (fun i => (i.zero, i.size, i.bytes)) = some (some (.int .u8 0), 1, 1))
    (base : Nat) (v : Value) (xs ys : List Int) (A : Option Addr) (c : Nat) (hs : a.eval s = v) (hx : a.eval x = .slice A ys.length c) (hQ : QM W base v xs) (hC : Kd.C (Kd.int .u8) W A ys.length ys) (hp : 0 < ys.length) (hl : xs.length + ys.length ≤ 140737488355328) (hbase : base ≤ W.heap.size)
    (h : ∀ v' w', QM w' base v' (xs ++ ys) → W.grownBy w' v.ownBlock → wpList P ops Q rest (a.put o.dst v') w') : wpList P ops Q (o :: rest) a W := by
  obtain ⟨v', w', hr, h1, h2⟩ := QM_run W base t o.type ht hinfo v xs ys A c hQ hC hp hl hbase
  refine wpList_plain hgd fun K hK => ?_
  unfold Oper.wp execOp
  simp only [ho, resolve, invoke, builtin, Sem.run_bind, Sem.run_pure, Result.andThen_ok, List.map_toArray, List.map_cons, List.map_nil, hs, hx, hr]
  exact hK _ _ (h v' w' h1 h2)
/-- The bytes of a string. -/
def bytesS (s : ByteArray) : List Int := s.data.toList.map (fun b => (b.toNat : Int))
theorem bytesS_length (s : ByteArray) : (bytesS s).length = s.size := by unfold bytesS; rw [List.length_map, Array.length_toList]; rfl
theorem bytesS_bytes (s : ByteArray) : Bytes (bytesS s) := by
  intro x hx
  unfold bytesS at hx
  obtain ⟨b, _, rfl⟩ := List.mem_map.1 hx
  have := b.toNat_lt
  omega
theorem L_conv (hgd : o.guard = none) (src dst : TypeId) (x : Operand) (ho : o.op = .convert src dst x) (s : ByteArray) (hx : a.eval x = .string s) (hs : P.underlying src = some .string) (hd : P.underlying dst = some (.slice 5)) (he : P.underlying 5 = some (.int .u8)) (hsm : s.size ≤ maxLen)
    (base : Nat) (hbase : base ≤ W.heap.size)
    (h : ∀ v' w', QM w' base v' (bytesS s) → Below W.heap.size W w' → wpList P ops Q rest (a.put o.dst v') w') : wpList P ops Q (o :: rest) a W := by
  have hr := run_bytes_of_string (P := P) W src dst 5 s hs hd he
  have hge := grownCap_ge W s.size 0 5
  have hsz : (bytesRow s (grownCap W s.size 0 5)).size = grownCap W s.size 0 5 := by
    unfold bytesRow
    simp only [Array.size_append, Array.size_map, Array.size_replicate]
    have : s.data.size = s.size := rfl
    omega
  refine Kd.event_run hgd (v := .slice (some ⟨W.heap.size, 0, none⟩) s.size (grownCap W s.size 0 5)) (w1 := W.drew.alloc (.cells (bytesRow s (grownCap W s.size 0 5)) 5 ((bytesRow s (grownCap W s.size 0 5)).size, (bytesRow s (grownCap W s.size 0 5)).size + 1))) ?_ (h _ _ ⟨W.heap.size, grownCap W s.size 0 5, _, _, by rw [bytesS_length], hbase, heap_alloc_new W.drew _, .inr (Nat.le_refl _), by rw [bytesS_length]; exact hge, grownCap_le_maxLen W s.size 0 5 hsm, hsz, ?_⟩ (((Below.refl _ _).drew).alloc (Nat.le_refl _) _))
  · simp [execOp, ho, hx, hr]
  · rw [bytesS_length]
    unfold bytesRow bytesS
    rw [Array.toList_append, Array.toList_map, List.take_append_of_le_length (by rw [List.length_map, Array.length_toList]; exact Nat.le_refl _), List.take_of_length_le (by rw [List.length_map, Array.length_toList]; exact Nat.le_refl _), List.map_map]
    rfl
end
end Go.Proofs.Ytdbfclfglpbpmaa.Sha

namespace Go.Proofs.Ytdbfclfglpbpmaa.Sha
open Go.RowKit Go.Proofs.YtdbfclfglpbpmaaW.Hand Go.Proofs.YtdbfclfglpbpmaaW.PrintWords Go.Proofs.YtdbfclfglpbpmaaW.PrintLast Go.Proofs.YtdbfclfglpbpmaaW.PrintMore Go.Proofs.Ytdbfclfglpbpmaa.PF25F Go.Proofs.Ytdbfclfglpbpmaa.Base Go.Proofs.Ytdbfclfglpbpmaa.LF25F
set_option linter.unusedVariables false
set_option linter.unusedSimpArgs false

/-! ### label.Of -/
def flip8 (x : Int) : Int := Go.bits .xor .u64 (IntKind.u64.wrap x) 9223372036854775808
def num8 (x : Int) : List Int := be 8 (flip8 x)
def labelL (s : ByteArray) (nums : List Int) : List Int := bytesS s ++ [0] ++ (nums.map num8).flatten
theorem bits_u64 (op : BinOp) (a b : Int) : 0 ≤ Go.bits op .u64 a b ∧ Go.bits op .u64 a b ≤ 18446744073709551615 := by
  unfold Go.bits
  cases op <;> simp only [IntKind.wrap_u64] <;> omega
theorem put8_calls (n : Int) (h0 : 0 ≤ n) (h1 : n ≤ 18446744073709551615) (w : World) : Calls Try.prog 128 #[.int .u64 n, .int .i64 8] w fun e w' => ∃ A c, e = .returned (.tuple #[.slice A (be 8 n).length c, .int .i64 0]) ∧ (be 8 n).length ≤ c ∧ Kd.C (Kd.int .u8) w' A (be 8 n).length (be 8 n) ∧ Below w.heap.size w w' := by
  have h8 : putSpec n 8 = (be 8 n, 0) := by
    unfold putSpec
    rw [if_neg (by omega), if_neg (by omega)]
    rfl
  obtain ⟨k, hk⟩ := (Put_ev n 8 h0 h1).rounds
  rw [h8] at hk
  refine (word_Put.calls k n 8 _ _ w hk).mono ?_
  rintro e w' ⟨v, rfl, hr, hb⟩
  obtain ⟨A, c, e1, h2, h3, _⟩ := newRow_of (w := w) (e := .returned v) ⟨v, rfl, hr, hb⟩
  injection e1 with e1
  subst e1
  exact ⟨A, c, rfl, h2, h3, hb⟩
theorem C_atI {k : IntKind} {w : World} {A : Option Addr} {l : List Int} (h : Kd.C (Kd.int k) w A l.length l) (i : Nat) (hi : i < l.length) : ∃ ad, A = some ad ∧ w.cell? (ad.add i) = some (.int k (rd l (i : Nat))) := by
  obtain ⟨ad, e, hc⟩ := C_cells h (by omega)
  refine ⟨ad, e, hc i _ ?_⟩
  rw [List.getElem?_map, List.getElem?_eq_getElem hi, rd_lt hi]
  rfl
theorem num8_length (x : Int) : (num8 x).length = 8 := by unfold num8; exact be_length 8 _
theorem flat8_length (nums : List Int) : ((nums.map num8).flatten).length = 8 * nums.length := by
  induction nums with
  | nil => rfl
  | cons x r ih =>
    simp only [List.map_cons, List.flatten_cons, List.length_append, num8_length, ih, List.length_cons]
    omega
theorem labelL_length (s : ByteArray) (nums : List Int) : (labelL s nums).length = s.size + 1 + 8 * nums.length := by
  unfold labelL
  rw [List.length_append, List.length_append, bytesS_length, flat8_length]
  rfl
theorem label_step (s : ByteArray) (nums : List Int) (k : Nat) (hk : k < nums.length) : labelL s (nums.take k) ++ num8 (rd nums (k : Nat)) = labelL s (nums.take (k + 1)) := by
  unfold labelL
  rw [List.take_succ_eq_append_getElem hk, List.map_append, List.flatten_append, ← List.append_assoc, rd_lt hk]
  simp
set_option maxHeartbeats 8000000 in
set_option maxRecDepth 100000 in
theorem Of_calls (s : ByteArray) (A : Option Addr) (c : Nat) (nums : List Int) (w : World) (hs : s.size ≤ 1000000) (hC : Kd.C (Kd.int .i64) w A nums.length nums) (hcc : nums.length ≤ c) (hl : nums.length ≤ 1000000) :
    Calls Try.prog 117 #[.string s, .slice A nums.length c] w fun e w' => NewRow w w' e (labelL s nums) := by
  have HC := Aside0.mk hC
  clear hC
  obtain ⟨B, hB⟩ : ∃ B, B = bytesS s := ⟨_, rfl⟩
  have hBl : B.length = s.size := by rw [hB]; exact bytesS_length s
  obtain ⟨T0, hT0⟩ : ∃ T, T = B ++ [0] := ⟨_, rfl⟩
  have HT0 := Aside0.mk hT0
  have HBE := Aside0.mk hB
  have HBL := Aside0.mk hBl
  clear hT0 hB hBl
  go_enter Try.func117, Try.ntmps117
  go_wp2_with (first | ((with_reducible refine gate_dst (N := 11) rfl ?_); refine L_conv rfl 9 22 (.tmp 10) rfl s rfl Try.underlying9 Try.underlying22 Try.underlying5 (Nat.le_trans hs (by decide)) w.heap.size (Nat.le_refl _) ?_; intro v1 w1 hq1 hb1; rw [← HBE.out] at hq1; obtain ⟨A1, c1, hv1, hle1⟩ := hq1.slice; subst hv1; have HQ1 := Aside0.mk hq1; have HB1 := Aside0.mk hb1; clear hq1 hb1) | ((with_reducible refine gate_dst (N := 12) rfl ?_); refine L_bslice rfl 22 5 1 _ rfl Try.underlying22 (arr .u8 [0]) (by kernel_rfl) ?_; intro g12 w2 hb12 hg12 hs12 hl12; have HB12 := Aside0.mk hb12; clear hb12; have HG12 := Aside0.mk hg12; clear hg12; have HS12 := Aside0.mk hs12; clear hs12; have HL12 := Aside0.mk hl12; clear hl12) | ((with_reducible refine gate_builtin (b := .append) (xs := #[.tmp 11, .tmp 12]) rfl ?_); refine L_appendM rfl (.tmp 11) (.tmp 12) 22 rfl Try.underlying22 info5 w.heap.size (.slice A1 B.length c1) B [0] (some ⟨g12, 0, none⟩) 1 rfl rfl (HQ1.out.below HL12.out) (C_arr (xs := [0]) HB12.out (by simp)) (by simp) (by rw [HBL.out]; simp; omega) (below_step HB1.out HL12.out).size ?_; intro v3 w3 hq3 hgr3; rw [← HT0.out] at hq3; obtain ⟨A3, c3, hv3, hle3⟩ := hq3.slice; subst hv3; have HBW3 := Aside0.mk ((below_step HB1.out HL12.out).grown hgr3 (below_step HB1.out HL12.out).size (fun k hk => (HQ1.out.lt k hk).1)); have HQ3 := Aside0.mk hq3; clear hq3 hgr3))
  have hI : Aside0 (QM w3 w.heap.size (.slice A3 T0.length c3) (labelL s (nums.take 0)) ∧ Below w.heap.size w w3) := by
    refine ⟨?_, HBW3.out⟩
    have e : labelL s (nums.take 0) = T0 := by rw [HT0.out, HBE.out]; unfold labelL; simp
    rw [e]
    exact HQ3.out
  clear HQ3 HBW3 HQ1 HB1 HB12 HG12 HS12 HL12
  go_loopw [5, 16] (fun va i wr => ∃ k : Nat, k ≤ nums.length ∧ i = .int .i64 k ∧ Aside0 (QM wr w.heap.size va (labelL s (nums.take k)) ∧ Below w.heap.size w wr)) (fun _ i _ => nums.length - (intOf i).toNat)
  case atStart => exact ⟨0, by omega, rfl, hI⟩
  case round =>
    clear hI
    obtain ⟨k, hk, rfl, HR⟩ := hrel
    by_cases hlt : k < nums.length
    · obtain ⟨ad, hAd, hcx⟩ := C_atI (Kd.C_below HC.out HR.out.2) k hlt
      subst hAd
      obtain ⟨x, hx⟩ : ∃ x, x = rd nums (k : Nat) := ⟨_, rfl⟩
      rw [← hx] at hcx
      obtain ⟨T, hT⟩ : ∃ T, T = labelL s (nums.take k) := ⟨_, rfl⟩
      have hTl : T.length ≤ 10000000 := by rw [hT, labelL_length, List.length_take]; omega
      obtain ⟨hQ, hbe⟩ := HR.out
      obtain ⟨Av, cv, rfl, hcv⟩ := hQ.slice
      rw [← hT] at hQ hcv
      rw [← hT]
      have HQ := Aside0.mk hQ
      have HBE := Aside0.mk hbe
      clear hQ hbe
      have HX := Aside0.mk (And.intro hx hT)
      obtain ⟨T6, hT6⟩ : ∃ X, X = T ++ num8 x := ⟨_, rfl⟩
      have HT6 := Aside0.mk hT6
      clear hT6
      clear HR hx hT
      go_wp2_with (first | (go_at_call 128; refine (put8_calls (flip8 x) (bits_u64 _ _ _).1 (bits_u64 _ _ _).2 _).mono ?_; rintro e w5 ⟨A5, c5, rfl, hle5, hC5, hb5⟩; have HC5 := Aside0.mk hC5; have HB5 := Aside0.mk hb5; clear hC5 hb5) | ((with_reducible refine gate_builtin (b := .append) (xs := #[.tmp 27, .tmp 28]) rfl ?_); refine L_appendM rfl (.tmp 27) (.tmp 28) 22 rfl Try.underlying22 info5 w.heap.size (.slice Av T.length cv) T (num8 x) A5 c5 rfl rfl (HQ.out.below HB5.out) HC5.out (by rw [num8_length]; omega) (by rw [num8_length]; omega) (below_step HBE.out HB5.out).size ?_; intro v6 w6 hq6 hgr6; rw [← HT6.out] at hq6; have HBW6 := Aside0.mk ((below_step HBE.out HB5.out).grown hgr6 (below_step HBE.out HB5.out).size (fun k hk => (HQ.out.lt k hk).1)); have HQ6 := Aside0.mk hq6; obtain ⟨A6, c6, hv6, hle6⟩ := hq6.slice; subst hv6; clear hq6 hgr6))
      go_roundw
      case rel =>
        refine ⟨k + 1, by omega, by go_num, ⟨?_, ?_⟩⟩
        · rw [← label_step s nums k hlt, ← HX.out.1, ← HX.out.2, ← HT6.out]
          exact HQ6.out
        · exact HBW6.out
      case measure => simp [intOf]; omega
    · obtain rfl : k = nums.length := by omega
      obtain ⟨T, hT⟩ : ∃ T, T = labelL s nums := ⟨_, rfl⟩
      obtain ⟨hQ, hbe⟩ := HR.out
      rw [List.take_of_length_le (Nat.le_refl _)] at hQ
      obtain ⟨Av, cv, rfl, hcv⟩ := hQ.slice
      rw [← hT] at hQ hcv
      rw [← hT]
      have HQ := Aside0.mk hQ
      have HBE := Aside0.mk hbe
      clear hQ hbe
      have HTT := Aside0.mk hT
      clear HR hT
      go_wp2
      go_ret
      have hT2 := HTT.out
      clear HTT
      subst hT2
      exact ⟨Av, cv, rfl, hcv, HQ.out.C, HBE.out⟩
end Go.Proofs.Ytdbfclfglpbpmaa.Sha

namespace Go.Proofs.Ytdbfclfglpbpmaa.Sha
open Go.RowKit Go.Proofs.YtdbfclfglpbpmaaW.Hand Go.Proofs.YtdbfclfglpbpmaaW.PrintWords Go.Proofs.YtdbfclfglpbpmaaW.PrintLast Go.Proofs.YtdbfclfglpbpmaaW.PrintMore Go.Proofs.Ytdbfclfglpbpmaa.PF25F Go.Proofs.Ytdbfclfglpbpmaa.Base Go.Proofs.Ytdbfclfglpbpmaa.LF25F
set_option linter.unusedVariables false
set_option linter.unusedSimpArgs false

/-! ### batonref04.Of: the plain law -/
theorem flip8_add (x : Int) : IntKind.u64.wrap (IntKind.u64.wrap x + 9223372036854775808) = flip8 x := by
  unfold flip8
  have h0 : 0 ≤ IntKind.u64.wrap x := by rw [IntKind.wrap_u64]; omega
  have h1 : IntKind.u64.wrap x < 18446744073709551616 := by rw [IntKind.wrap_u64]; omega
  obtain ⟨a, ha⟩ := Int.eq_ofNat_of_zero_le h0
  rw [ha] at h1 ⊢
  have h1' : a < 18446744073709551616 := by omega
  have e := bits_xor_u64_nat a 9223372036854775808 h1' (by decide)
  rw [show ((9223372036854775808 : Nat) : Int) = 9223372036854775808 from rfl] at e
  rw [e, IntKind.wrap_u64]
  have hd : (a ^^^ 9223372036854775808) / 2 ^ 63 = (a / 2 ^ 63) ^^^ (9223372036854775808 / 2 ^ 63) := Nat.xor_div_two_pow
  have hm : (a ^^^ 9223372036854775808) % 2 ^ 63 = (a % 2 ^ 63) ^^^ (9223372036854775808 % 2 ^ 63) := Nat.xor_mod_two_pow
  rw [show (9223372036854775808 : Nat) / 2 ^ 63 = 1 from by decide] at hd
  rw [show (9223372036854775808 : Nat) % 2 ^ 63 = 0 from by decide, Nat.xor_zero] at hm
  have h01 : a / 2 ^ 63 = 0 ∨ a / 2 ^ 63 = 1 := by omega
  rcases h01 with h | h
  · rw [h, show (0 ^^^ 1 : Nat) = 1 from rfl] at hd
    omega
  · rw [h, show (1 ^^^ 1 : Nat) = 0 from rfl] at hd
    omega
theorem of_l2 (nums acc : List Int) (i x0 : Int) (R : List Int) (h0 : 0 ≤ x0) (h1 : x0 ≤ 18446744073709551615) (hacc : acc.length ≤ 1000000000) (hnext : Ev (fun k => batonref04_Of.l1 k nums (acc ++ be 8 x0) (wrap64 (i + 1))) R) : ∀ (d j : Nat), 8 - j = d → j ≤ 8 → Ev (fun k => batonref04_Of.l2 k nums acc i (x0 / 2 ^ (8 * j)) (be j x0) (j : Int)) R := by
  intro d
  induction d with
  | zero =>
    intro j hd hj
    obtain rfl : j = 8 := by omega
    apply ev_succ
    simp only [batonref04_Of.l2, if_neg (show ¬ (((8 : Nat) : Int) < 8) by omega), if_pos (show acc.length + (be 8 x0).length < 140737488355328 by rw [be_length]; omega)]
    exact hnext
  | succ d ih =>
    intro j hd hj
    have hw : wrap64 ((j : Int) + 1) = ((j + 1 : Nat) : Int) := by rw [w64 (by omega) (by omega)]; omega
    have hp : (0 : Int) < 2 ^ (8 * j) := Int.pow_pos (by decide)
    have hx0 : 0 ≤ x0 / 2 ^ (8 * j) := Int.ediv_nonneg h0 (Int.le_of_lt hp)
    have hx1 : x0 / 2 ^ (8 * j) ≤ x0 := Int.ediv_le_self _ h0
    have e1 : Int.tmod (x0 / 2 ^ (8 * j)) 256 % 256 = x0 / 2 ^ (8 * j) % 256 := by
      rw [Int.tmod_eq_emod_of_nonneg hx0]
      omega
    have e2 : IntKind.u64.wrap (Int.tdiv (x0 / 2 ^ (8 * j)) 256) = x0 / 2 ^ (8 * (j + 1)) := by
      have e3 : x0 / 2 ^ (8 * (j + 1)) = x0 / 2 ^ (8 * j) / 256 := by
        rw [show 8 * (j + 1) = 8 * j + 8 from rfl, Int.pow_add, show (2 : Int) ^ 8 = 256 from rfl, Int.ediv_ediv_of_nonneg (Int.le_of_lt hp)]
      rw [Int.tdiv_eq_ediv_of_nonneg hx0, IntKind.wrap_u64, e3]
      clear e3 e1
      generalize x0 / 2 ^ (8 * j) = q at *
      omega
    apply ev_succ
    simp only [batonref04_Of.l2, if_pos (show (j : Int) < 8 by omega), hw, Option.bind_some, e1, e2, List.length_singleton, if_pos (show 1 + (be j x0).length < 140737488355328 by rw [be_length]; omega), List.singleton_append]
    exact ih (j + 1) (by omega) (by omega)
theorem of_l1 (nums : List Int) (hn : nums.length ≤ 1000000) : ∀ (d i : Nat) (acc : List Int), nums.length - i = d → i ≤ nums.length → acc.length + 8 * d ≤ 1000000000 → Ev (fun k => batonref04_Of.l1 k nums acc (i : Int)) (acc ++ ((nums.drop i).map num8).flatten) := by
  intro d
  induction d with
  | zero =>
    intro i acc hd hi ha
    obtain rfl : i = nums.length := by omega
    apply ev_succ
    simp only [batonref04_Of.l1, if_neg (show ¬ ((nums.length : Int) < (nums.length : Int)) by omega)]
    exact ev_eq (ev_some _) (by simp)
  | succ d ih =>
    intro i acc hd hi ha
    have hlt : i < nums.length := by omega
    have hw : wrap64 ((i : Int) + 1) = ((i + 1 : Nat) : Int) := by rw [w64 (by omega) (by omega)]; omega
    apply ev_succ
    simp only [batonref04_Of.l1, if_pos (show (i : Int) < (nums.length : Int) by omega), if_pos (show (0 : Int) ≤ (i : Int) by omega), flip8_add]
    have hb := bits_u64 .xor (IntKind.u64.wrap (rd nums (i : Nat))) 9223372036854775808
    have hl2 := of_l2 nums acc (i : Int) (flip8 (rd nums (i : Nat))) (acc ++ ((nums.drop i).map num8).flatten) hb.1 hb.2 (by omega) (by
      rw [hw]
      refine ev_eq (ih (i + 1) _ (by omega) (by omega) (by rw [List.length_append, be_length]; omega)) ?_
      rw [List.drop_eq_getElem_cons hlt, List.map_cons, List.flatten_cons, List.append_assoc, rd_lt hlt]
      rfl) 8 0 (by omega) (by omega)
    simpa [be] using hl2
theorem of_l0 (s : ByteArray) (nums : List Int) (hs : s.size ≤ 1000000) (hn : nums.length ≤ 1000000) : ∀ (d i : Nat) (acc : List Int), s.size - i = d → i ≤ s.size → acc.length + d ≤ 2000000 → Ev (fun k => batonref04_Of.l0 k s nums acc (i : Int)) (acc ++ (bytesS s).drop i ++ [0] ++ (nums.map num8).flatten) := by
  intro d
  induction d with
  | zero =>
    intro i acc hd hi ha
    obtain rfl : i = s.size := by omega
    apply ev_succ
    simp only [batonref04_Of.l0, if_neg (show ¬ ((s.size : Int) < (s.size : Int)) by omega), if_pos (show acc.length < 140737488355328 by omega)]
    refine ev_eq (of_l1 nums hn nums.length 0 _ (by omega) (by omega) (by rw [List.length_append, List.length_singleton]; omega)) ?_
    rw [← bytesS_length s, List.drop_length]
    simp
  | succ d ih =>
    intro i acc hd hi ha
    have hlt : i < s.size := by omega
    have hw : wrap64 ((i : Int) + 1) = ((i + 1 : Nat) : Int) := by rw [w64 (by omega) (by omega)]; omega
    apply ev_succ
    simp only [batonref04_Of.l0, if_pos (show (i : Int) < (s.size : Int) by omega), if_pos (show (0 : Int) ≤ (i : Int) by omega), if_pos (show acc.length < 140737488355328 by omega), hw]
    refine ev_eq (ih (i + 1) _ (by omega) (by omega) (by rw [List.length_append, List.length_singleton]; omega)) ?_
    have hlb : i < (bytesS s).length := by rw [bytesS_length]; exact hlt
    have hbt : (bytesS s)[i] = bt s (i : Int) := by
      have hd : i < s.data.size := hlt
      have e : (bytesS s)[i]? = some (bt s (i : Int)) := by
        unfold bytesS
        rw [List.getElem?_map, Array.getElem?_toList, Array.getElem?_eq_getElem hd]
        unfold bt
        rw [dif_pos (show (i : Int).toNat < s.size by omega)]
        rfl
      rw [List.getElem?_eq_getElem hlb] at e
      injection e
    rw [List.drop_eq_getElem_cons hlb, hbt]
    simp
theorem labelRef_ev (s : ByteArray) (nums : List Int) (hs : s.size ≤ 1000000) (hn : nums.length ≤ 1000000) : Ev (fun k => batonref04_Of.f k s nums) (labelL s nums) := by
  unfold batonref04_Of.f
  refine ev_eq (of_l0 s nums hs hn s.size 0 [] (by omega) (by omega) (by simp; omega)) ?_
  unfold labelL
  simp
theorem refOf_calls (s : ByteArray) (A : Option Addr) (c : Nat) (nums : List Int) (w : World) (hs : s.size ≤ 1000000) (hC : Kd.C (Kd.int .i64) w A nums.length nums) (hcc : nums.length ≤ c) (hl : nums.length ≤ 1000000) :
    Calls Try.prog 96 #[.string s, .slice A nums.length c] w fun e w' => NewRow w w' e (labelL s nums) := by
  obtain ⟨k, hk⟩ := (labelRef_ev s nums hs hl).rounds
  exact (batonref04_Of.calls k s A c nums _ w hC hcc hk).mono fun e w' h => newRow_of h
theorem num8_bytes (x : Int) : Bytes (num8 x) := be_bytes 8 _
theorem labelL_bytes (s : ByteArray) (nums : List Int) : Bytes (labelL s nums) := by
  unfold labelL
  refine ((bytesS_bytes s).append (fun x hx => by simp at hx; omega)).append ?_
  intro y hy
  obtain ⟨l, hl, hyl⟩ := List.mem_flatten.1 hy
  obtain ⟨x, _, rfl⟩ := List.mem_map.1 hl
  exact num8_bytes x y hyl
end Go.Proofs.Ytdbfclfglpbpmaa.Sha

namespace Go.Proofs.Ytdbfclfglpbpmaa.Sha
open Go.RowKit Go.Proofs.YtdbfclfglpbpmaaW.Hand Go.Proofs.YtdbfclfglpbpmaaW.PrintWords Go.Proofs.YtdbfclfglpbpmaaW.PrintLast Go.Proofs.YtdbfclfglpbpmaaW.PrintMore Go.Proofs.Ytdbfclfglpbpmaa.PF25F Go.Proofs.Ytdbfclfglpbpmaa.Base Go.Proofs.Ytdbfclfglpbpmaa.LF25F
set_option linter.unusedVariables false
set_option linter.unusedSimpArgs false

theorem own_in (wl : List Int) (k : Nat) (h : k < wl.length) : rd (fitL wl) (k : Nat) = rd wl (k : Nat) := by
  rw [rd_lt (by unfold fitL; rw [List.length_append]; omega), rd_lt h]
  unfold fitL
  exact List.getElem_append_left h
theorem own_out (wl : List Int) (k : Nat) (h : ¬ k < wl.length) (h64 : k < 64) : rd (fitL wl) (k : Nat) = 0 := by
  rw [rd_lt (by unfold fitL; rw [List.length_append, List.length_replicate]; omega)]
  unfold fitL
  rw [List.getElem_append_right (by omega), List.getElem_replicate]
/-- The state of HmacOwn's loop: the 64 bytes in their block, the row to compare with. -/
def OSt (w wr : World) (g3 : Nat) (A : Option Addr) (wl : List Int) : Prop := wr.heap[g3]? = some (.cells (arr .u8 (fitL wl)) 201 (0, 0)) ∧ Kd.C (Kd.int .u8) wr A wl.length wl ∧ Below w.heap.size w wr
theorem OSt.at {w wr : World} {g3 : Nat} {A : Option Addr} {wl : List Int} (h : OSt w wr g3 A wl) (k : Nat) (h64 : k < 64) : (k < wl.length → ∃ ad x, A = some ad ∧ wr.cell? (ad.add k) = some (.int .u8 x) ∧ wr.cell? ⟨g3, k, none⟩ = some (.int .u8 x)) ∧ (¬ k < wl.length → wr.cell? ⟨g3, k, none⟩ = some (.int .u8 0)) := by
  obtain ⟨h1, h2, h3⟩ := h
  have hlen : k < (fitL wl).length := by unfold fitL; rw [List.length_append, List.length_replicate]; omega
  refine ⟨fun hk => ?_, fun hk => ?_⟩
  · obtain ⟨ad, e, hc⟩ := C_cells h2 (by omega)
    refine ⟨ad, rd wl (k : Nat), e, hc k _ ?_, ?_⟩
    · rw [List.getElem?_map, List.getElem?_eq_getElem hk, rd_lt hk]
      rfl
    · rw [blk_cell h1 k, arr_get _ _ _ hlen, own_in wl k hk]
  · rw [blk_cell h1 k, arr_get _ _ _ hlen, own_out wl k hk h64]
theorem OSt.drewN {w wr : World} {g3 : Nat} {A : Option Addr} {wl : List Int} (h : OSt w wr g3 A wl) (m : Nat) : OSt w (wr.drewN m) g3 A wl := ⟨h.1, Kd.C_drewN h.2.1 m, pw_below_drewN h.2.2 m⟩
end Go.Proofs.Ytdbfclfglpbpmaa.Sha

namespace Go.Proofs.Ytdbfclfglpbpmaa.Sha
open Go.RowKit Go.Proofs.YtdbfclfglpbpmaaW.Hand Go.Proofs.YtdbfclfglpbpmaaW.PrintWords Go.Proofs.YtdbfclfglpbpmaaW.PrintLast Go.Proofs.YtdbfclfglpbpmaaW.PrintMore Go.Proofs.Ytdbfclfglpbpmaa.PF25F Go.Proofs.Ytdbfclfglpbpmaa.Base Go.Proofs.Ytdbfclfglpbpmaa.LF25F
set_option linter.unusedVariables false
set_option linter.unusedSimpArgs false

/-! ### batonref03.Sum -/
/-- The two rows: what i bytes of the key, padded, come to. -/
def refL (wl : List Int) (x : Int) (k : Nat) : List Int := (turnL (fitL wl) x).take k
theorem fitL_ge (wl : List Int) : 64 ≤ (fitL wl).length := by unfold fitL; rw [List.length_append, List.length_replicate]; omega
theorem refL_push (wl : List Int) (x : Int) (k : Nat) (h : k < 64) : refL wl x k ++ [Go.bits .xor .u8 (rd (fitL wl) (k : Nat)) x] = refL wl x (k + 1) := by
  have hk : k < (turnL (fitL wl) x).length := by rw [turnL_length]; have := fitL_ge wl; omega
  unfold refL
  rw [List.take_succ_eq_append_getElem hk]
  congr 2
  have := fitL_ge wl
  rw [rd_lt (by omega)]
  simp [turnL]
theorem refL_length (wl : List Int) (x : Int) (k : Nat) (h : k ≤ 64) : (refL wl x k).length = k := by
  unfold refL
  have := fitL_ge wl
  rw [List.length_take, turnL_length]
  omega
theorem refL_bytes (wl : List Int) (x : Int) (k : Nat) : Bytes (refL wl x k) := fun y hy => turnL_bytes _ _ y (List.mem_of_mem_take hy)
/-- The state of batonref03.Sum's loop. -/
def RSt (w wr : World) (va vb : Value) (xs ys : List Int) : Prop := QB wr w.heap.size va xs ∧ QB wr w.heap.size vb ys ∧ (∀ k, va.ownBlock = some k → vb.ownBlock ≠ some k) ∧ Below w.heap.size w wr
/-- One row has grown: the other stands. -/
theorem RSt.push {w wr w1 w2 : World} {va vb v' : Value} {xs ys xs' : List Int} (h : RSt w wr va vb xs ys) (hb : Below wr.heap.size wr w1) (hq : QB w2 w.heap.size v' xs') (hgr : w1.grownBy w2 va.ownBlock) (hat : v'.ownBlock = va.ownBlock ∨ ∃ b, v'.ownBlock = some b ∧ w1.heap.size ≤ b) : RSt w w2 v' vb xs' ys := by
  obtain ⟨h1, h2, h3, h5⟩ := h
  have hs := h5.size
  have hs1 := hb.size
  refine ⟨hq, (h2.below hb).kept (grown_kept hgr) (fun k hk e => h3 k e hk), fun k hk e => ?_, (below_step h5 hb).grown hgr (by omega) (fun k hk => h1.base k hk)⟩
  rcases hat with h | ⟨b, h, hle⟩
  · exact h3 k (by rw [← h, hk]) e
  · rw [hk] at h
    injection h with h
    have := h2.lt k e
    omega
theorem RSt.swap {w wr : World} {va vb : Value} {xs ys : List Int} (h : RSt w wr va vb xs ys) : RSt w wr vb va ys xs := ⟨h.2.1, h.1, fun k hk e => h.2.2.1 k e hk, h.2.2.2⟩
theorem RSt.below {w wr W : World} {va vb : Value} {xs ys : List Int} (h : RSt w wr va vb xs ys) (hb : Below wr.heap.size wr W) : RSt w W va vb xs ys := ⟨h.1.below hb, h.2.1.below hb, h.2.2.1, below_step h.2.2.2 hb⟩
theorem refL_end (wl : List Int) (x : Int) (h : wl.length ≤ 64) : refL wl x 64 = turnL (fitL wl) x := by
  unfold refL
  exact List.take_of_length_le (by rw [turnL_length, fitL_length wl h]; omega)
theorem C_at {w : World} {A : Option Addr} {l : List Int} (h : Kd.C (Kd.int .u8) w A l.length l) (k : Nat) (hk : k < l.length) : ∃ ad, A = some ad ∧ w.cell? (ad.add k) = some (.int .u8 (rd l (k : Nat))) := by
  obtain ⟨ad, e, hc⟩ := C_cells h (by omega)
  refine ⟨ad, e, hc k _ ?_⟩
  rw [List.getElem?_map, List.getElem?_eq_getElem hk, rd_lt hk]
  rfl
end Go.Proofs.Ytdbfclfglpbpmaa.Sha

namespace Go.Proofs.Ytdbfclfglpbpmaa.Sha
open Go.RowKit Go.Proofs.YtdbfclfglpbpmaaW.Hand Go.Proofs.YtdbfclfglpbpmaaW.PrintWords Go.Proofs.YtdbfclfglpbpmaaW.PrintLast Go.Proofs.YtdbfclfglpbpmaaW.PrintMore Go.Proofs.Ytdbfclfglpbpmaa.PF25F Go.Proofs.Ytdbfclfglpbpmaa.Base Go.Proofs.Ytdbfclfglpbpmaa.LF25F
set_option linter.unusedVariables false
set_option linter.unusedSimpArgs false

/-! ### hmac.Same, Check -/
theorem w8 (n : Int) (h0 : 0 ≤ n) (h1 : n < 2 ^ 8) : IntKind.u8.wrap n = n := by
  rw [IntKind.wrap_u8]
  omega
end Go.Proofs.Ytdbfclfglpbpmaa.Sha

namespace Go.Proofs.Ytdbfclfglpbpmaa.Sha
open Go.RowKit Go.Proofs.YtdbfclfglpbpmaaW.Hand Go.Proofs.YtdbfclfglpbpmaaW.PrintWords Go.Proofs.YtdbfclfglpbpmaaW.PrintLast Go.Proofs.YtdbfclfglpbpmaaW.PrintMore Go.Proofs.Ytdbfclfglpbpmaa.PF25F Go.Proofs.Ytdbfclfglpbpmaa.Base Go.Proofs.Ytdbfclfglpbpmaa.LF25F
set_option linter.unusedVariables false
set_option linter.unusedSimpArgs false

section
variable {P : Program} {ops : Array Oper} {rest : List Oper} {o : Oper} {a : Act} {W : World} {Q : Exit → Act → World → Prop}
end
end Go.Proofs.Ytdbfclfglpbpmaa.Sha

namespace Go.Proofs.Ytdbfclfglpbpmaa.Sha
open Go.RowKit Go.Proofs.YtdbfclfglpbpmaaW.Hand Go.Proofs.YtdbfclfglpbpmaaW.PrintWords Go.Proofs.YtdbfclfglpbpmaaW.PrintLast Go.Proofs.YtdbfclfglpbpmaaW.PrintMore Go.Proofs.Ytdbfclfglpbpmaa.PF25F Go.Proofs.Ytdbfclfglpbpmaa.Base Go.Proofs.Ytdbfclfglpbpmaa.LF25F
set_option linter.unusedVariables false
set_option linter.unusedSimpArgs false

/-! ### keys -/
section
variable {P : Program} {ops : Array Oper} {o : Oper} {a : Act} {W : World} {K : Act → World → Prop} {Q : Exit → Act → World → Prop} {E : Prop}
theorem step_of (hw : Region.wanted o (yielded ops a.tmps) = true) (h : Oper.wp P o a W K Q) : if Region.wanted o (yielded ops a.tmps) = true then Oper.wp P o a W K Q else E := by
  rw [if_pos hw]
  exact h
theorem W_call (f : FuncId) (args : Array Value) (hrun : (execOp a.eval o).run P W = .ok (.enter f args) W) (hc : Calls P f args W fun e w' => ∃ v, e = .returned v ∧ K (a.put o.dst v) w') : o.wp P a W K Q := by
  unfold Oper.wp
  rw [hrun, Oper.upon_enter]
  refine hc.mono fun e w'' hh => ?_
  obtain ⟨v, rfl, hk⟩ := hh
  exact hk
theorem W_bslice (t e : TypeId) (len : Nat) (parts : Array (Nat × Operand)) (ho : o.op = .buildSlice t len parts) (hu : P.underlying t = some (.slice e)) (cells : Array Value)
    (hf : Go.Program.builtSlice P e len (parts.map fun (i, x) => (i, a.eval x)).toList = some cells)
    (h : ∀ g w1, w1.heap[g]? = some (.cells cells e (0, 0)) → W.heap.size = g → w1.heap.size = g + 1 → Below W.heap.size W w1 → K (a.put o.dst (.slice (some ⟨g, 0, none⟩) len len)) w1) : o.wp P a W K Q := by
  unfold Program.builtSlice at hf
  cases hie : P.info? e with
  | none => simp [hie] at hf
  | some ie =>
    simp only [hie] at hf
    cases hz : ie.zero with
    | none => simp [hz] at hf
    | some z =>
      simp only [hz] at hf
      by_cases hc : len * ie.size > 2 ^ 24 ∨ len * ie.size = 0
      · simp [hc] at hf
      · rw [if_neg hc] at hf
        exact wp_buildSlice t e len parts ho cells ie z hu hie hz (fun h' => hc (Or.inl h')) (fun h' => hc (Or.inr h')) hf (h _ _ (heap_alloc_new W _) rfl (by show (W.heap.push _).size = _; simp) ((Below.refl _ _).alloc (Nat.le_refl _) _))
theorem W_store (hd : o.dst = none) (ty : TypeId) (x y : Operand) (ho : o.op = .store ty x y) (g : Nat) (hx : a.eval x = .pointer (some ⟨g, 0, none⟩)) (cs : Array Value) (hy : a.eval y = .agg cs)
    (hi : (P.info? ty).map (·.size) = some cs.size) (cur : Array Value) (t : TypeId) (hg : W.heap[g]? = some (.cells cur t (0, 0))) (hfit : cs.size = cur.size) (h1 : cs.all (·.oneCell') = true)
    (h : ∀ w', w'.heap[g]? = some (.cells cs t (0, 0)) → Upd W w' g → K a w') : o.wp P a W K Q := by
  have hst := run_storeCells_at P g 0 t cs.toList 0 cur W hg (by simp [hfit]) (fun v hv => (Array.all_eq_true_iff_forall_mem.1 h1) v (by simpa using hv))
  have hnew : (cur.toList.take 0 ++ cs.toList ++ cur.toList.drop cs.toList.length).toArray = cs := by
    rw [Array.length_toList, hfit, List.drop_of_length_le (by simp)]
    simp
  simp only [Nat.add_zero, Nat.zero_add, hnew] at hst
  unfold Oper.wp execOp
  cases hq : P.info? ty with
  | none => simp [hq] at hi
  | some ii =>
    have hs : cs.size = ii.size := by simp [hq] at hi; omega
    have hrun : (Instr.storeAt ty (.pointer (some ⟨g, 0, none⟩)) (.agg cs)).run P W = .ok () (W.setRow g cs) := by
      simp [Instr.storeAt, Instr.sureAddr, storeVar, sizeOf, typeInfo, hq, Value.cells, hs, hst]
    simp only [ho, hx, hy, Sem.run_bind, hrun, Result.andThen_ok, Sem.run_pure]
    show K (a.put o.dst undef) _
    rw [hd]
    exact h _ (setRow_heap W g cur cs t (0, 0) hg) ⟨rfl, rfl, rfl, setRow_size W g cs, fun k hk => setRow_other W g k cs hk⟩
end
section
variable {P : Program} {md : Region.Mode} {ops : Array Oper} {o : Oper} {a : Act} {W : World} {Q : Exit → Act → World → Prop} {fuel : Nat} {listed : Array Bool}
theorem any_call (i : Nat) (ho : ops[i]? = some o) (hr : Region.ready md ops listed = [i]) (hw : Region.wanted o (yielded ops a.tmps) = true) (f : FuncId) (args : Array Value) (hrun : (execOp a.eval o).run P W = .ok (.enter f args) W) (hc : Calls P f args W fun e w' => ∃ v, e = .returned v ∧ wpAny P md ops Q fuel (listed.setIfInBounds i true) (a.put o.dst v) w') : wpAny P md ops Q (fuel + 1) listed a W :=
  wpAny_ready hr (by simp) (AllReady.cons ho (fun K hK => step_of hw (W_call f args hrun (hc.mono fun e w' ⟨v, h1, h2⟩ => ⟨v, h1, hK _ _ h2⟩))) AllReady.nil)
theorem any_bslice (i : Nat) (ho : ops[i]? = some o) (hr : Region.ready md ops listed = [i]) (hw : Region.wanted o (yielded ops a.tmps) = true) (t e : TypeId) (len : Nat) (parts : Array (Nat × Operand)) (hop : o.op = .buildSlice t len parts) (hu : P.underlying t = some (.slice e)) (cells : Array Value)
    (hf : Go.Program.builtSlice P e len (parts.map fun (i, x) => (i, a.eval x)).toList = some cells)
    (h : ∀ g w1, w1.heap[g]? = some (.cells cells e (0, 0)) → W.heap.size = g → w1.heap.size = g + 1 → Below W.heap.size W w1 → wpAny P md ops Q fuel (listed.setIfInBounds i true) (a.put o.dst (.slice (some ⟨g, 0, none⟩) len len)) w1) : wpAny P md ops Q (fuel + 1) listed a W :=
  wpAny_ready hr (by simp) (AllReady.cons ho (fun K hK => step_of hw (W_bslice t e len parts hop hu cells hf (fun g w1 h1 h2 h3 h4 => hK _ _ (h g w1 h1 h2 h3 h4)))) AllReady.nil)
theorem any_store (i : Nat) (ho : ops[i]? = some o) (hr : Region.ready md ops listed = [i]) (hw : Region.wanted o (yielded ops a.tmps) = true) (hd : o.dst = none) (ty : TypeId) (x y : Operand) (hop : o.op = .store ty x y) (g : Nat) (hx : a.eval x = .pointer (some ⟨g, 0, none⟩)) (cs : Array Value) (hy : a.eval y = .agg cs)
    (hi : (P.info? ty).map (·.size) = some cs.size) (cur : Array Value) (t : TypeId) (hg : W.heap[g]? = some (.cells cur t (0, 0))) (hfit : cs.size = cur.size) (h1 : cs.all (·.oneCell') = true)
    (h : ∀ w', w'.heap[g]? = some (.cells cs t (0, 0)) → Upd W w' g → wpAny P md ops Q fuel (listed.setIfInBounds i true) a w') : wpAny P md ops Q (fuel + 1) listed a W :=
  wpAny_ready hr (by simp) (AllReady.cons ho (fun K hK => step_of hw (W_store hd ty x y hop g hx cs hy hi cur t hg hfit h1 (fun w' h1 h2 => hK _ _ (h w' h1 h2)))) AllReady.nil)
end
def keyL (sec : List Int) (s : ByteArray) (nums : List Int) : List Int := hmacL sec [labelL s nums]
theorem keyL_length (sec : List Int) (s : ByteArray) (nums : List Int) : (keyL sec s nums).length = 32 := hmacL_length _ _
set_option maxHeartbeats 8000000 in
set_option maxRecDepth 100000 in
theorem derive_calls (sec : List Int) (s : ByteArray) (A : Option Addr) (c : Nat) (nums : List Int) (w : World) (hsl : sec.length = 32) (hBs : Bytes sec) (hs : s.size ≤ 1000) (hC : Kd.C (Kd.int .i64) w A nums.length nums) (hcc : nums.length ≤ c) (hl : nums.length ≤ 1000) :
    Calls Try.prog 110 #[.agg (arr .u8 sec), .string s, .slice A nums.length c] w fun e w' => e = .returned (.agg (arr .u8 (keyL sec s nums))) ∧ Below w.heap.size w w' := by
  have HC := Aside0.mk hC
  have HBS := Aside0.mk hBs
  have HSL := Aside0.mk hsl
  clear hC hBs hsl
  obtain ⟨L, hL⟩ : ∃ L, L = labelL s nums := ⟨_, rfl⟩
  have hLl : L.length ≤ 100000 := by rw [hL, labelL_length]; omega
  have HLL := Aside0.mk hLl
  have HLB := Aside0.mk (show Bytes L by rw [hL]; exact labelL_bytes _ _)
  obtain ⟨S, hS⟩ : ∃ S, S = keyL sec s nums := ⟨_, rfl⟩
  have HSE := Aside0.mk (show S = hmacL sec [L] by rw [hS, hL]; rfl)
  have HS32 := Aside0.mk (show S.length = 32 by rw [hS]; exact keyL_length _ _ _)
  have HLE := Aside0.mk hL
  rw [← hS]
  clear hL hS hLl
  go_enter Try.func110, Try.ntmps110
  go_wp2_with (first | ((with_reducible refine gate_dst (N := 3) rfl ?_); refine L_box rfl 130 (.tmp 0) rfl (.agg (arr .u8 sec)) rfl ?_; intro g3 w1 hb3 hg3 hs3 hl3; have HB3 := Aside0.mk hb3; clear hb3; have HG3 := Aside0.mk hg3; clear hg3; have HS3 := Aside0.mk hs3; clear hs3; have HL3 := Aside0.mk hl3; clear hl3) | ((with_reducible refine gate_dst (N := 6) rfl ?_); refine L_alloc rfl 130 rfl (.agg (arr .u8 (List.replicate 32 0))) 32 (by kernel_rfl) ?_; intro g6 w2 hb6 hg6 hs6 hl6; have HB6 := Aside0.mk hb6; clear hb6; have HG6 := Aside0.mk hg6; clear hg6; have HS6 := Aside0.mk hs6; clear hs6; have HL6 := Aside0.mk hl6; clear hl6))
  have HE := Aside0.mk (And.intro ((HL6.out.block g3 (blk_lt HB3.out)).trans HB3.out) (And.intro HB6.out (And.intro (below_step HL3.out HL6.out) (And.intro HG6.out HG3.out))))
  have hlt36 : g3 < g6 := by have := HG6.out; have := HS3.out; omega
  clear HB3 HG3 HS3 HL3 HB6 HG6 HS6 HL6
  refine wp_region_any (by kernel_rfl) ?_
  change wpAny _ _ _ _ _ _ _ (World.drew _)
  refine wpAny_take (i := 0) (v := .slice (some ⟨g3, 0, none⟩) 32 32) rfl (by kernel_rfl) (by kernel_rfl) (by kernel_rfl) (fun _ _ _ h => h) (Or.inl ⟨by rfl, ?hy0⟩) ?r0
  case hy0 => intro w; go_simp
  refine wpAny_take (i := 1) (v := .string s) rfl (by kernel_rfl) (by kernel_rfl) (by kernel_rfl) (fun _ _ _ h => h) (Or.inl ⟨by rfl, ?hy1⟩) ?r1
  case hy1 => intro w; go_simp
  refine wpAny_take (i := 2) (v := .slice A nums.length c) rfl (by kernel_rfl) (by kernel_rfl) (by kernel_rfl) (fun _ _ _ h => h) (Or.inl ⟨by rfl, ?hy2⟩) ?r2
  case hy2 => intro w; go_simp
  refine any_call 3 (by rfl) (by kernel_rfl) (by kernel_rfl) 117 #[.string s, .slice A nums.length c] (by kernel_rfl) ?_
  refine (Of_calls s A c nums _ (by omega) (Kd.C_below HC.out (below_drew HE.out.2.2.1)) hcc (by omega)).mono ?_
  rintro e w4 hn; rw [← HLE.out] at hn; obtain ⟨A4, c4, rfl, hle4, hC4, hb4⟩ := hn; have HC4 := Aside0.mk hC4; have HB4 := Aside0.mk hb4; clear hC4 hb4
  refine ⟨_, rfl, ?_⟩
  refine any_bslice 4 (by rfl) (by kernel_rfl) (by kernel_rfl) 99 22 1 _ rfl Try.underlying99 (#[.slice A4 L.length c4]) (by kernel_rfl) ?_
  intro g11 w11 hb11 hg11 hs11 hl11
  have HB11 := Aside0.mk hb11
  have HG11 := Aside0.mk hg11
  have HL11 := Aside0.mk hl11
  clear hb11 hg11 hs11 hl11
  refine any_call 5 (by rfl) (by kernel_rfl) (by kernel_rfl) 116 #[.slice (some ⟨g3, 0, none⟩) 32 32, .slice (some ⟨g11, 0, none⟩) 1 1] (by kernel_rfl) ?_
  refine (calls_of_args (args' := #[.slice (some ⟨g3, 0, none⟩) sec.length 32, .slice (some ⟨g11, 0, none⟩) [L].length 1]) (by rw [HSL.out]; rfl) (HmacSum_calls (some ⟨g3, 0, none⟩) 32 sec (some ⟨g11, 0, none⟩) 1 [L] _ (C_arr (xs := sec) ((HL11.out.block g3 (Nat.lt_of_lt_of_le (blk_lt HE.out.1) HB4.out.size)).trans ((HB4.out.block g3 (blk_lt HE.out.1)).trans HE.out.1)) (by rw [HSL.out]; omega)) (by rw [HSL.out]; omega) HBS.out (by rw [HSL.out]; omega) (C_rows1 HB11.out hle4 (Kd.C_below HC4.out HL11.out)) (by simp) (fun x hx => by rw [List.mem_singleton] at hx; rw [hx]; exact HLB.out) (by simp) (fun x hx => by rw [List.mem_singleton] at hx; rw [hx]; exact HLL.out))).mono ?_
  rintro e w5 ⟨rfl, hb5⟩; rw [← HSE.out]; have HB5 := Aside0.mk hb5; clear hb5
  refine ⟨_, rfl, ?_⟩
  refine any_store 6 (by rfl) (by kernel_rfl) (by kernel_rfl) (by kernel_rfl) 130 (.tmp 6) (.tmp 12) (by kernel_rfl) g6 (by kernel_rfl) (arr .u8 S) (by kernel_rfl) (by rw [arr_size, HS32.out]; kernel_rfl) (arr .u8 (List.replicate 32 0)) 130 ((HB5.out.block g6 (Nat.lt_of_lt_of_le (blk_lt HE.out.2.1) (Nat.le_trans HB4.out.size HL11.out.size))).trans ((HL11.out.block g6 (Nat.lt_of_lt_of_le (blk_lt HE.out.2.1) HB4.out.size)).trans ((HB4.out.block g6 (blk_lt HE.out.2.1)).trans HE.out.2.1))) (by rw [arr_size, arr_size, HS32.out]; rfl) (arr_one _ _) ?_
  intro w6 hbw6 huw6
  have HBW6 := Aside0.mk hbw6
  have HUW6 := Aside0.mk huw6
  clear hbw6 huw6
  refine wpAny_done (by kernel_rfl) ?_ _
  generalize hfr : Act.put _ _ _ = af
  have hfr2 : af = { tmps := #[.agg (arr .u8 sec), .string s, .slice A nums.length c, .pointer (some ⟨g3, 0, none⟩), undef, undef, .pointer (some ⟨g6, 0, none⟩), .slice (some ⟨g3, 0, none⟩) 32 32, .string s, .slice A nums.length c, .slice A4 L.length c4, .slice (some ⟨g11, 0, none⟩) 1 1, .agg (arr .u8 S)], defers := [] } := by
    rw [← hfr]
    kernel_rfl
  clear hfr
  subst hfr2
  go_wp2
  exact ret_cell rfl rfl g6 rfl (arr .u8 S) 130 _ HBW6.out Try.underlying130 rfl (by rw [arr_size, HS32.out]; kernel_rfl) ⟨rfl, HUW6.out.below (below_step (below_step (below_step (below_drew HE.out.2.2.1) HB4.out) HL11.out) HB5.out) (by have := HE.out.2.2.2.2; omega)⟩
end Go.Proofs.Ytdbfclfglpbpmaa.Sha

namespace Go.Proofs.Ytdbfclfglpbpmaa.Sha
open Go.RowKit Go.Proofs.YtdbfclfglpbpmaaW.Hand Go.Proofs.YtdbfclfglpbpmaaW.PrintWords Go.Proofs.YtdbfclfglpbpmaaW.PrintLast Go.Proofs.YtdbfclfglpbpmaaW.PrintMore Go.Proofs.Ytdbfclfglpbpmaa.PF25F Go.Proofs.Ytdbfclfglpbpmaa.Base Go.Proofs.Ytdbfclfglpbpmaa.LF25F
set_option linter.unusedVariables false
set_option linter.unusedSimpArgs false
set_option maxHeartbeats 8000000 in
set_option maxRecDepth 100000 in
theorem Device_calls (sec : List Int) (x0 : Int) (x1 : Int) (w : World) (hsl : sec.length = 32) (hBs : Bytes sec) : Calls Try.prog 94 #[.agg (arr .u8 sec), .int .i64 x0, .int .i64 x1] w fun e w' => e = .returned (.agg (arr .u8 (keyL sec { data := #[100, 101, 118, 105, 99, 101] } [x0, x1]))) ∧ Below w.heap.size w w' := by
  have HBS := Aside0.mk hBs
  have HSL := Aside0.mk hsl
  obtain ⟨S, hS⟩ : ∃ S, S = keyL sec { data := #[100, 101, 118, 105, 99, 101] } [x0, x1] := ⟨_, rfl⟩
  have HSE := Aside0.mk hS
  have HS32 := Aside0.mk (show S.length = 32 by rw [hS]; exact keyL_length _ _ _)
  rw [← hS]
  clear hBs hsl hS
  go_enter Try.func94, Try.ntmps94
  go_wp2_with (first | ((with_reducible refine gate_dst (N := 3) rfl ?_); refine L_box rfl 130 (.tmp 0) rfl (.agg (arr .u8 sec)) rfl ?_; intro g3 w1 hb3 hg3 hs3 hl3; have HB3 := Aside0.mk hb3; clear hb3; have HG3 := Aside0.mk hg3; clear hg3; have HS3 := Aside0.mk hs3; clear hs3; have HL3 := Aside0.mk hl3; clear hl3) | ((with_reducible refine gate_dst (N := 6) rfl ?_); refine L_alloc rfl 130 rfl (.agg (arr .u8 (List.replicate 32 0))) 32 (by kernel_rfl) ?_; intro g6 w2 hb6 hg6 hs6 hl6; have HB6 := Aside0.mk hb6; clear hb6; have HG6 := Aside0.mk hg6; clear hg6; have HS6 := Aside0.mk hs6; clear hs6; have HL6 := Aside0.mk hl6; clear hl6) | ((with_reducible refine gate_dst (N := 7) rfl ?_); refine L_load rfl 130 (.tmp 3) rfl g3 rfl 130 (arr .u8 sec) _ (((HL6.out.block g3 (blk_lt HB3.out)).trans HB3.out)) Try.underlying130 rfl (by rw [arr_size, HSL.out]; kernel_rfl) ?_) | ((with_reducible refine gate_dst (N := 10) rfl ?_); refine L_bslice rfl 86 3 2 _ rfl Try.underlying86 (arr .i64 [x0, x1]) (by kernel_rfl) ?_; intro g10 w4 hb10 hg10 hs10 hl10; have HB10 := Aside0.mk hb10; clear hb10; have HG10 := Aside0.mk hg10; clear hg10; have HS10 := Aside0.mk hs10; clear hs10; have HL10 := Aside0.mk hl10; clear hl10) | (go_at_call 110; refine (derive_calls sec { data := #[100, 101, 118, 105, 99, 101] } (some ⟨g10, 0, none⟩) 2 [x0, x1] _ HSL.out HBS.out (by decide) (C_arr (xs := [x0, x1]) HB10.out (by simp)) (by simp) (by simp)).mono ?_; rintro e w5 ⟨rfl, hb5⟩; rw [← HSE.out]; have HB5 := Aside0.mk hb5; clear hb5) | (refine L_store rfl rfl 130 (.tmp 6) (.tmp 11) (by rfl) g6 (arr .u8 S) (by rfl) (by rfl) (arr .u8 (List.replicate 32 0)) 130 (((HB5.out.block g6 (Nat.lt_of_lt_of_le (blk_lt HB6.out) HL10.out.size)).trans ((HL10.out.block g6 (blk_lt HB6.out)).trans HB6.out))) (by rw [arr_size, arr_size, HS32.out]; rfl) (by rw [arr_size, HS32.out]; kernel_rfl) (arr_one _ _) ?_; intro w9 hbw9 huw9; have HBW9 := Aside0.mk hbw9; clear hbw9; have HUW9 := Aside0.mk huw9; clear huw9))
  exact ret_cell rfl rfl g6 rfl (arr .u8 S) 130 _ HBW9.out Try.underlying130 rfl (by rw [arr_size, HS32.out]; kernel_rfl) ⟨rfl, HUW9.out.below (below_step (below_step (below_step HL3.out HL6.out) HL10.out) HB5.out) (by have := HG6.out; have := HL3.out.size; omega)⟩
end Go.Proofs.Ytdbfclfglpbpmaa.Sha

namespace Go.Proofs.Ytdbfclfglpbpmaa.Sha
open Go.RowKit Go.Proofs.YtdbfclfglpbpmaaW.Hand Go.Proofs.YtdbfclfglpbpmaaW.PrintWords Go.Proofs.YtdbfclfglpbpmaaW.PrintLast Go.Proofs.YtdbfclfglpbpmaaW.PrintMore Go.Proofs.Ytdbfclfglpbpmaa.PF25F Go.Proofs.Ytdbfclfglpbpmaa.Base Go.Proofs.Ytdbfclfglpbpmaa.LF25F
set_option linter.unusedVariables false
set_option linter.unusedSimpArgs false

/-- A row that was handed back new, in a block of its own. -/
def NewRowF (w w' : World) (e : Ending) (xs : List Int) : Prop := ∃ A c, e = .returned (.slice A xs.length c) ∧ xs.length ≤ c ∧ Kd.C (Kd.int .u8) w' A xs.length xs ∧ Below w.heap.size w w' ∧ ∀ k, A.map (·.block) = some k → w.heap.size ≤ k
theorem newRowF_of {w w' : World} {e : Ending} {xs : List Int} {ok : Nat → Prop} (h : ∃ v0_ : Value, e = .returned v0_ ∧ Kd.R (Kd.int .u8) 5 w' w.heap.size ok v0_ xs ∧ Below w.heap.size w w') : NewRowF w w' e xs := by
  obtain ⟨v, rfl, hr, hb⟩ := h
  have hbase := Kd.R_base hr
  obtain ⟨A, c, rfl, hl, hc⟩ := Kd.R_reads hr
  exact ⟨A, c, rfl, hl, hc, hb, fun k hk => hbase k (by rw [own_slice_block]; exact hk)⟩
theorem refSumF_calls (A : Option Addr) (c : Nat) (b : List Int) (w : World) (hC : Kd.C (Kd.int .u8) w A b.length b) (hcc : b.length ≤ c) (hb : Bytes b) (hl : b.length ≤ 1000000000) : Calls Try.prog 111 #[.slice A b.length c] w fun e w' => NewRowF w w' e (shaL b) := by
  obtain ⟨k, hk⟩ := (refSum_ev b hb (by omega)).rounds
  exact (batonref02_Sum.calls k A c b _ w hC hcc hk).mono fun e w' h => newRowF_of h
set_option maxHeartbeats 8000000 in
set_option maxRecDepth 100000 in
theorem refHmacF_calls (A : Option Addr) (c : Nat) (key : List Int) (A2 : Option Addr) (c2 : Nat) (m : List Int) (w : World) (hC : Kd.C (Kd.int .u8) w A key.length key) (hcc : key.length ≤ c) (hB : Bytes key) (hlk : key.length ≤ 1000000) (hCm : Kd.C (Kd.int .u8) w A2 m.length m) (hcm : m.length ≤ c2) (hBm : Bytes m) (hlm : m.length ≤ 1000000) :
    Calls Try.prog 95 #[.slice A key.length c, .slice A2 m.length c2] w fun e w' => NewRowF w w' e (hmacL key [m]) := by
  have HC := Aside0.mk hC
  have HBB := Aside0.mk hB
  have HMM0 := Aside0.mk hCm
  have HBM := Aside0.mk hBm
  clear hC hB hCm hBm
  by_cases h64 : key.length > 64
  · have hFIN : Aside0 (hmacL key [m] = shaL (refL (shaL key) 92 64 ++ shaL (refL (shaL key) 54 64 ++ m))) := ⟨by unfold hmacL ownL; rw [if_pos h64, refL_end _ _ (by rw [shaL_length]; omega), refL_end _ _ (by rw [shaL_length]; omega)]; simp⟩
    go_enter Try.func95, Try.ntmps95
    go_wp2_with (go_at_call 111; refine (refSum_calls A c key _ HC.out hcc HBB.out (by omega)).mono ?_; rintro e w5 ⟨A5, c5, rfl, hle5, hC5, hb5⟩; have HCK := Aside0.mk hC5; have HB0 := Aside0.mk hb5; have HMM := Aside0.mk (Kd.C_below HMM0.out hb5); clear hC5 hb5)
    have hI : Aside0 (RSt w5 w5 (.slice none 0 0) (.slice none 0 0) (refL (shaL key) 92 0) (refL (shaL key) 54 0)) := ⟨QB.nil _ _, QB.nil _ _, (fun k hk => by cases hk), Below.refl _ _⟩
    go_loopw [5, 6, 7] (fun va vb i wr => ∃ k : Nat, k ≤ 64 ∧ i = .int .i64 k ∧ Aside0 (RSt w5 wr va vb (refL (shaL key) 92 k) (refL (shaL key) 54 k))) (fun _ _ i _ => 64 - (intOf i).toNat)
    case atStart => exact ⟨0, by omega, rfl, hI⟩
    case round =>
      clear hI
      obtain ⟨k, hk, rfl, HR⟩ := hrel
      obtain ⟨Aa, ca, rfl, hca⟩ := HR.out.1.slice
      obtain ⟨Ab, cb, rfl, hcb⟩ := HR.out.2.1.slice
      by_cases hlt : k < 64
      · by_cases hin : k < (shaL key).length
        · obtain ⟨ad, hAd, hcx⟩ := C_at (Kd.C_below HCK.out HR.out.2.2.2) k hin
          rw [← own_in (shaL key) k hin] at hcx
          subst hAd
          go_wp2_with (first | ((with_reducible refine gate_dst (N := 29) rfl ?_); refine L_bslice rfl 22 5 1 _ rfl Try.underlying22 (arr .u8 [Go.bits .xor .u8 (rd (fitL (shaL key)) (k : Nat)) 92]) (by kernel_rfl) ?_; intro g29 wr29 hb29 hg29 hs29 hl29; have HB29 := Aside0.mk hb29; clear hb29; have HG29 := Aside0.mk hg29; clear hg29; have HS29 := Aside0.mk hs29; clear hs29; have HL29 := Aside0.mk hl29; clear hl29) | ((with_reducible refine gate_builtin (b := .append) (xs := #[.tmp 26, .tmp 29]) rfl ?_); refine L_append rfl (.tmp 26) (.tmp 29) 22 rfl Try.underlying22 info5 w5.heap.size (.slice Aa (refL (shaL key) 92 k).length ca) (refL (shaL key) 92 k) [Go.bits .xor .u8 (rd (fitL (shaL key)) (k : Nat)) 92] (some ⟨g29, 0, none⟩) 1 rfl rfl (HR.out.1.below HL29.out) (C_arr (xs := [Go.bits .xor .u8 (rd (fitL (shaL key)) (k : Nat)) 92]) HB29.out (by simp)) (by rw [refL_length _ _ _ (by omega)]; simp; omega) (by have := HR.out.2.2.2.size; have := HL29.out.size; omega) ?_; intro vs30 ws30 hqs30 hgrs30 hats30; rw [refL_push (shaL key) _ _ hlt] at hqs30; have HSs30 := Aside0.mk (HR.out.push HL29.out hqs30 hgrs30 hats30); obtain ⟨As30, cs30, hvs30, hles30⟩ := hqs30.slice; subst hvs30; clear hqs30 hgrs30 hats30) | ((with_reducible refine gate_dst (N := 34) rfl ?_); refine L_bslice rfl 22 5 1 _ rfl Try.underlying22 (arr .u8 [Go.bits .xor .u8 (rd (fitL (shaL key)) (k : Nat)) 54]) (by kernel_rfl) ?_; intro g34 wr34 hb34 hg34 hs34 hl34; have HB34 := Aside0.mk hb34; clear hb34; have HG34 := Aside0.mk hg34; clear hg34; have HS34 := Aside0.mk hs34; clear hs34; have HL34 := Aside0.mk hl34; clear hl34) | ((with_reducible refine gate_builtin (b := .append) (xs := #[.tmp 31, .tmp 34]) rfl ?_); refine L_append rfl (.tmp 31) (.tmp 34) 22 rfl Try.underlying22 info5 w5.heap.size (.slice Ab (refL (shaL key) 54 k).length cb) (refL (shaL key) 54 k) [Go.bits .xor .u8 (rd (fitL (shaL key)) (k : Nat)) 54] (some ⟨g34, 0, none⟩) 1 rfl rfl (HSs30.out.swap.1.below HL34.out) (C_arr (xs := [Go.bits .xor .u8 (rd (fitL (shaL key)) (k : Nat)) 54]) HB34.out (by simp)) (by rw [refL_length _ _ _ (by omega)]; simp; omega) (by have := HSs30.out.2.2.2.size; have := HL34.out.size; omega) ?_; intro vs35 ws35 hqs35 hgrs35 hats35; rw [refL_push (shaL key) _ _ hlt] at hqs35; have HSs35 := Aside0.mk (HSs30.out.swap.push HL34.out hqs35 hgrs35 hats35); obtain ⟨As35, cs35, hvs35, hles35⟩ := hqs35.slice; subst hvs35; clear hqs35 hgrs35 hats35))
          go_roundw
          case rel => exact ⟨k + 1, by omega, by go_num, ⟨HSs35.out.swap⟩⟩
          case measure => simp [intOf]; omega
        · have h0 := own_out (shaL key) k hin hlt
          have e92 : refL (shaL key) 92 k ++ [92] = refL (shaL key) 92 (k + 1) := by have := refL_push (shaL key) 92 k hlt; rw [h0] at this; exact this
          have e54 : refL (shaL key) 54 k ++ [54] = refL (shaL key) 54 (k + 1) := by have := refL_push (shaL key) 54 k hlt; rw [h0] at this; exact this
          clear h0
          go_wp2_with (first | ((with_reducible refine gate_dst (N := 29) rfl ?_); refine L_bslice rfl 22 5 1 _ rfl Try.underlying22 (arr .u8 [92]) (by kernel_rfl) ?_; intro g29 wr29 hb29 hg29 hs29 hl29; have HB29 := Aside0.mk hb29; clear hb29; have HG29 := Aside0.mk hg29; clear hg29; have HS29 := Aside0.mk hs29; clear hs29; have HL29 := Aside0.mk hl29; clear hl29) | ((with_reducible refine gate_builtin (b := .append) (xs := #[.tmp 26, .tmp 29]) rfl ?_); refine L_append rfl (.tmp 26) (.tmp 29) 22 rfl Try.underlying22 info5 w5.heap.size (.slice Aa (refL (shaL key) 92 k).length ca) (refL (shaL key) 92 k) [92] (some ⟨g29, 0, none⟩) 1 rfl rfl (HR.out.1.below HL29.out) (C_arr (xs := [92]) HB29.out (by simp)) (by rw [refL_length _ _ _ (by omega)]; simp; omega) (by have := HR.out.2.2.2.size; have := HL29.out.size; omega) ?_; intro vs30 ws30 hqs30 hgrs30 hats30; rw [e92] at hqs30; have HSs30 := Aside0.mk (HR.out.push HL29.out hqs30 hgrs30 hats30); obtain ⟨As30, cs30, hvs30, hles30⟩ := hqs30.slice; subst hvs30; clear hqs30 hgrs30 hats30) | ((with_reducible refine gate_dst (N := 34) rfl ?_); refine L_bslice rfl 22 5 1 _ rfl Try.underlying22 (arr .u8 [54]) (by kernel_rfl) ?_; intro g34 wr34 hb34 hg34 hs34 hl34; have HB34 := Aside0.mk hb34; clear hb34; have HG34 := Aside0.mk hg34; clear hg34; have HS34 := Aside0.mk hs34; clear hs34; have HL34 := Aside0.mk hl34; clear hl34) | ((with_reducible refine gate_builtin (b := .append) (xs := #[.tmp 31, .tmp 34]) rfl ?_); refine L_append rfl (.tmp 31) (.tmp 34) 22 rfl Try.underlying22 info5 w5.heap.size (.slice Ab (refL (shaL key) 54 k).length cb) (refL (shaL key) 54 k) [54] (some ⟨g34, 0, none⟩) 1 rfl rfl (HSs30.out.swap.1.below HL34.out) (C_arr (xs := [54]) HB34.out (by simp)) (by rw [refL_length _ _ _ (by omega)]; simp; omega) (by have := HSs30.out.2.2.2.size; have := HL34.out.size; omega) ?_; intro vs35 ws35 hqs35 hgrs35 hats35; rw [e54] at hqs35; have HSs35 := Aside0.mk (HSs30.out.swap.push HL34.out hqs35 hgrs35 hats35); obtain ⟨As35, cs35, hvs35, hles35⟩ := hqs35.slice; subst hvs35; clear hqs35 hgrs35 hats35))
          go_roundw
          case rel => exact ⟨k + 1, by omega, by go_num, ⟨HSs35.out.swap⟩⟩
          case measure => simp [intOf]; omega
      · obtain rfl : k = 64 := by omega
        obtain ⟨X92, hX92⟩ : ∃ X, X = refL (shaL key) 92 64 := ⟨_, rfl⟩
        obtain ⟨X54, hX54⟩ : ∃ X, X = refL (shaL key) 54 64 := ⟨_, rfl⟩
        have hl92 : X92.length = 64 := by rw [hX92]; exact refL_length _ _ _ (by omega)
        have hl54 : X54.length = 64 := by rw [hX54]; exact refL_length _ _ _ (by omega)
        have hb92 : Bytes X92 := by rw [hX92]; exact refL_bytes _ _ _
        have hb54 : Bytes X54 := by rw [hX54]; exact refL_bytes _ _ _
        have hF := hFIN.out
        have HR2 := HR.out
        rw [← hX92, ← hX54] at HR2 hF
        rw [← hX92] at hca
        rw [← hX54] at hcb
        rw [← hX92, ← hX54]
        obtain ⟨T1, hT1⟩ : ∃ X, X = X54 ++ m := ⟨_, rfl⟩
        obtain ⟨S1, hS1⟩ : ∃ X, X = shaL T1 := ⟨_, rfl⟩
        obtain ⟨T2, hT2⟩ : ∃ X, X = X92 ++ S1 := ⟨_, rfl⟩
        have hlS1 : S1.length = 32 := by rw [hS1]; exact shaL_length _
        have hbS1 : Bytes S1 := by rw [hS1]; exact shaL_bytes _
        rw [← hT1, ← hS1, ← hT2] at hF
        have HT1 := Aside0.mk hT1
        have HT2 := Aside0.mk hT2
        have hlT1 : T1.length ≤ 2000000 := by rw [hT1, List.length_append]; omega
        have hlT2 : T2.length = 96 := by rw [hT2, List.length_append]; omega
        have HLT := Aside0.mk (And.intro hlT1 hlT2)
        have HFX := Aside0.mk (And.intro hF (And.intro hl92 (And.intro hl54 (And.intro hb92 (And.intro hb54 (And.intro hlS1 (And.intro hbS1 hS1)))))))
        clear hT1 hT2 hlT1 hlT2 HR hFIN hX92 hX54 hl92 hl54 hb92 hb54 hF hS1 hlS1 hbS1
        have HR := Aside0.mk HR2
        clear HR2
        go_wp2_with (first | ((with_reducible refine gate_builtin (b := .append) (xs := #[.tmp 37, .tmp 38]) rfl ?_); refine L_append rfl (.tmp 37) (.tmp 38) 22 rfl Try.underlying22 info5 w5.heap.size (.slice Ab X54.length cb) X54 m A2 c2 rfl rfl HR.out.2.1 (Kd.C_below HMM.out HR.out.2.2.2) (by rw [HFX.out.2.2.1]; omega) HR.out.2.2.2.size ?_; intro v39 w39 hq39 hgr39 hat39; rw [← HT1.out] at hq39; have HS39 := Aside0.mk (HR.out.swap.push (Below.refl _ _) hq39 hgr39 hat39); obtain ⟨A39, c39, hv39, hle39⟩ := hq39.slice; subst hv39; clear hq39 hgr39 hat39) | (go_at_call 111; have _t := HS41.out; refine (refSumF_calls A41 c41 T2 _ HS41.out.1.C hle41 (by rw [HT2.out]; exact HFX.out.2.2.2.1.append HFX.out.2.2.2.2.2.2.1) (by rw [HLT.out.2]; omega)).mono ?_; rintro e w6 ⟨A6, c6, rfl, hle6, hC6, hb6, hf6⟩; have HF6 := Aside0.mk hf6; clear hf6; have HC6 := Aside0.mk hC6; have HB6 := Aside0.mk hb6; clear hC6 hb6) | (go_at_call 111; refine (refSum_calls A39 c39 T1 _ HS39.out.1.C hle39 (by rw [HT1.out]; exact HFX.out.2.2.2.2.1.append HBM.out) (Nat.le_trans HLT.out.1 (by decide))).mono ?_; rintro e w40 hn40; rw [← HFX.out.2.2.2.2.2.2.2] at hn40; obtain ⟨A40, c40, rfl, hle40, hC40, hb40⟩ := hn40; have HC40 := Aside0.mk hC40; have HB40 := Aside0.mk hb40; clear hC40 hb40) | ((with_reducible refine gate_builtin (b := .append) (xs := #[.tmp 36, .tmp 40]) rfl ?_); refine L_append rfl (.tmp 36) (.tmp 40) 22 rfl Try.underlying22 info5 w5.heap.size (.slice Aa X92.length ca) X92 S1 A40 c40 rfl rfl ((HS39.out.below HB40.out).swap.1) HC40.out (by rw [HFX.out.2.1, HFX.out.2.2.2.2.2.1]; omega) ((HS39.out.below HB40.out).2.2.2.size) ?_; intro v41 w41 hq41 hgr41 hat41; rw [← HT2.out] at hq41; have HS41 := Aside0.mk ((HS39.out.below HB40.out).swap.push (Below.refl _ _) hq41 hgr41 hat41); obtain ⟨A41, c41, hv41, hle41⟩ := hq41.slice; subst hv41; clear hq41 hgr41 hat41))
        go_ret
        exact ⟨A6, c6, by rw [HFX.out.1]; rfl, by rw [HFX.out.1]; exact hle6, by rw [HFX.out.1]; exact HC6.out, below_step (below_step HB0.out HS41.out.2.2.2) HB6.out, fun k hk => Nat.le_trans (below_step HB0.out HS41.out.2.2.2).size (HF6.out k hk)⟩
  · have hFIN : Aside0 (hmacL key [m] = shaL (refL key 92 64 ++ shaL (refL key 54 64 ++ m))) := ⟨by unfold hmacL ownL; rw [if_neg h64, refL_end _ _ (by omega), refL_end _ _ (by omega)]; simp⟩
    have HCK := Aside0.mk HC.out
    have HMM := Aside0.mk HMM0.out
    have HB0 := Aside0.mk (Below.refl w.heap.size w)
    go_enter Try.func95, Try.ntmps95
    go_wp2
    have hI : Aside0 (RSt w w (.slice none 0 0) (.slice none 0 0) (refL key 92 0) (refL key 54 0)) := ⟨QB.nil _ _, QB.nil _ _, (fun k hk => by cases hk), Below.refl _ _⟩
    go_loopw [5, 6, 7] (fun va vb i wr => ∃ k : Nat, k ≤ 64 ∧ i = .int .i64 k ∧ Aside0 (RSt w wr va vb (refL key 92 k) (refL key 54 k))) (fun _ _ i _ => 64 - (intOf i).toNat)
    case atStart => exact ⟨0, by omega, rfl, hI⟩
    case round =>
      clear hI
      obtain ⟨k, hk, rfl, HR⟩ := hrel
      obtain ⟨Aa, ca, rfl, hca⟩ := HR.out.1.slice
      obtain ⟨Ab, cb, rfl, hcb⟩ := HR.out.2.1.slice
      by_cases hlt : k < 64
      · by_cases hin : k < key.length
        · obtain ⟨ad, hAd, hcx⟩ := C_at (Kd.C_below HCK.out HR.out.2.2.2) k hin
          rw [← own_in key k hin] at hcx
          subst hAd
          go_wp2_with (first | ((with_reducible refine gate_dst (N := 29) rfl ?_); refine L_bslice rfl 22 5 1 _ rfl Try.underlying22 (arr .u8 [Go.bits .xor .u8 (rd (fitL key) (k : Nat)) 92]) (by kernel_rfl) ?_; intro g29 wr29 hb29 hg29 hs29 hl29; have HB29 := Aside0.mk hb29; clear hb29; have HG29 := Aside0.mk hg29; clear hg29; have HS29 := Aside0.mk hs29; clear hs29; have HL29 := Aside0.mk hl29; clear hl29) | ((with_reducible refine gate_builtin (b := .append) (xs := #[.tmp 26, .tmp 29]) rfl ?_); refine L_append rfl (.tmp 26) (.tmp 29) 22 rfl Try.underlying22 info5 w.heap.size (.slice Aa (refL key 92 k).length ca) (refL key 92 k) [Go.bits .xor .u8 (rd (fitL key) (k : Nat)) 92] (some ⟨g29, 0, none⟩) 1 rfl rfl (HR.out.1.below HL29.out) (C_arr (xs := [Go.bits .xor .u8 (rd (fitL key) (k : Nat)) 92]) HB29.out (by simp)) (by rw [refL_length _ _ _ (by omega)]; simp; omega) (by have := HR.out.2.2.2.size; have := HL29.out.size; omega) ?_; intro vs30 ws30 hqs30 hgrs30 hats30; rw [refL_push key _ _ hlt] at hqs30; have HSs30 := Aside0.mk (HR.out.push HL29.out hqs30 hgrs30 hats30); obtain ⟨As30, cs30, hvs30, hles30⟩ := hqs30.slice; subst hvs30; clear hqs30 hgrs30 hats30) | ((with_reducible refine gate_dst (N := 34) rfl ?_); refine L_bslice rfl 22 5 1 _ rfl Try.underlying22 (arr .u8 [Go.bits .xor .u8 (rd (fitL key) (k : Nat)) 54]) (by kernel_rfl) ?_; intro g34 wr34 hb34 hg34 hs34 hl34; have HB34 := Aside0.mk hb34; clear hb34; have HG34 := Aside0.mk hg34; clear hg34; have HS34 := Aside0.mk hs34; clear hs34; have HL34 := Aside0.mk hl34; clear hl34) | ((with_reducible refine gate_builtin (b := .append) (xs := #[.tmp 31, .tmp 34]) rfl ?_); refine L_append rfl (.tmp 31) (.tmp 34) 22 rfl Try.underlying22 info5 w.heap.size (.slice Ab (refL key 54 k).length cb) (refL key 54 k) [Go.bits .xor .u8 (rd (fitL key) (k : Nat)) 54] (some ⟨g34, 0, none⟩) 1 rfl rfl (HSs30.out.swap.1.below HL34.out) (C_arr (xs := [Go.bits .xor .u8 (rd (fitL key) (k : Nat)) 54]) HB34.out (by simp)) (by rw [refL_length _ _ _ (by omega)]; simp; omega) (by have := HSs30.out.2.2.2.size; have := HL34.out.size; omega) ?_; intro vs35 ws35 hqs35 hgrs35 hats35; rw [refL_push key _ _ hlt] at hqs35; have HSs35 := Aside0.mk (HSs30.out.swap.push HL34.out hqs35 hgrs35 hats35); obtain ⟨As35, cs35, hvs35, hles35⟩ := hqs35.slice; subst hvs35; clear hqs35 hgrs35 hats35))
          go_roundw
          case rel => exact ⟨k + 1, by omega, by go_num, ⟨HSs35.out.swap⟩⟩
          case measure => simp [intOf]; omega
        · have h0 := own_out key k hin hlt
          have e92 : refL key 92 k ++ [92] = refL key 92 (k + 1) := by have := refL_push key 92 k hlt; rw [h0] at this; exact this
          have e54 : refL key 54 k ++ [54] = refL key 54 (k + 1) := by have := refL_push key 54 k hlt; rw [h0] at this; exact this
          clear h0
          go_wp2_with (first | ((with_reducible refine gate_dst (N := 29) rfl ?_); refine L_bslice rfl 22 5 1 _ rfl Try.underlying22 (arr .u8 [92]) (by kernel_rfl) ?_; intro g29 wr29 hb29 hg29 hs29 hl29; have HB29 := Aside0.mk hb29; clear hb29; have HG29 := Aside0.mk hg29; clear hg29; have HS29 := Aside0.mk hs29; clear hs29; have HL29 := Aside0.mk hl29; clear hl29) | ((with_reducible refine gate_builtin (b := .append) (xs := #[.tmp 26, .tmp 29]) rfl ?_); refine L_append rfl (.tmp 26) (.tmp 29) 22 rfl Try.underlying22 info5 w.heap.size (.slice Aa (refL key 92 k).length ca) (refL key 92 k) [92] (some ⟨g29, 0, none⟩) 1 rfl rfl (HR.out.1.below HL29.out) (C_arr (xs := [92]) HB29.out (by simp)) (by rw [refL_length _ _ _ (by omega)]; simp; omega) (by have := HR.out.2.2.2.size; have := HL29.out.size; omega) ?_; intro vs30 ws30 hqs30 hgrs30 hats30; rw [e92] at hqs30; have HSs30 := Aside0.mk (HR.out.push HL29.out hqs30 hgrs30 hats30); obtain ⟨As30, cs30, hvs30, hles30⟩ := hqs30.slice; subst hvs30; clear hqs30 hgrs30 hats30) | ((with_reducible refine gate_dst (N := 34) rfl ?_); refine L_bslice rfl 22 5 1 _ rfl Try.underlying22 (arr .u8 [54]) (by kernel_rfl) ?_; intro g34 wr34 hb34 hg34 hs34 hl34; have HB34 := Aside0.mk hb34; clear hb34; have HG34 := Aside0.mk hg34; clear hg34; have HS34 := Aside0.mk hs34; clear hs34; have HL34 := Aside0.mk hl34; clear hl34) | ((with_reducible refine gate_builtin (b := .append) (xs := #[.tmp 31, .tmp 34]) rfl ?_); refine L_append rfl (.tmp 31) (.tmp 34) 22 rfl Try.underlying22 info5 w.heap.size (.slice Ab (refL key 54 k).length cb) (refL key 54 k) [54] (some ⟨g34, 0, none⟩) 1 rfl rfl (HSs30.out.swap.1.below HL34.out) (C_arr (xs := [54]) HB34.out (by simp)) (by rw [refL_length _ _ _ (by omega)]; simp; omega) (by have := HSs30.out.2.2.2.size; have := HL34.out.size; omega) ?_; intro vs35 ws35 hqs35 hgrs35 hats35; rw [e54] at hqs35; have HSs35 := Aside0.mk (HSs30.out.swap.push HL34.out hqs35 hgrs35 hats35); obtain ⟨As35, cs35, hvs35, hles35⟩ := hqs35.slice; subst hvs35; clear hqs35 hgrs35 hats35))
          go_roundw
          case rel => exact ⟨k + 1, by omega, by go_num, ⟨HSs35.out.swap⟩⟩
          case measure => simp [intOf]; omega
      · obtain rfl : k = 64 := by omega
        obtain ⟨X92, hX92⟩ : ∃ X, X = refL key 92 64 := ⟨_, rfl⟩
        obtain ⟨X54, hX54⟩ : ∃ X, X = refL key 54 64 := ⟨_, rfl⟩
        have hl92 : X92.length = 64 := by rw [hX92]; exact refL_length _ _ _ (by omega)
        have hl54 : X54.length = 64 := by rw [hX54]; exact refL_length _ _ _ (by omega)
        have hb92 : Bytes X92 := by rw [hX92]; exact refL_bytes _ _ _
        have hb54 : Bytes X54 := by rw [hX54]; exact refL_bytes _ _ _
        have hF := hFIN.out
        have HR2 := HR.out
        rw [← hX92, ← hX54] at HR2 hF
        rw [← hX92] at hca
        rw [← hX54] at hcb
        rw [← hX92, ← hX54]
        obtain ⟨T1, hT1⟩ : ∃ X, X = X54 ++ m := ⟨_, rfl⟩
        obtain ⟨S1, hS1⟩ : ∃ X, X = shaL T1 := ⟨_, rfl⟩
        obtain ⟨T2, hT2⟩ : ∃ X, X = X92 ++ S1 := ⟨_, rfl⟩
        have hlS1 : S1.length = 32 := by rw [hS1]; exact shaL_length _
        have hbS1 : Bytes S1 := by rw [hS1]; exact shaL_bytes _
        rw [← hT1, ← hS1, ← hT2] at hF
        have HT1 := Aside0.mk hT1
        have HT2 := Aside0.mk hT2
        have hlT1 : T1.length ≤ 2000000 := by rw [hT1, List.length_append]; omega
        have hlT2 : T2.length = 96 := by rw [hT2, List.length_append]; omega
        have HLT := Aside0.mk (And.intro hlT1 hlT2)
        have HFX := Aside0.mk (And.intro hF (And.intro hl92 (And.intro hl54 (And.intro hb92 (And.intro hb54 (And.intro hlS1 (And.intro hbS1 hS1)))))))
        clear hT1 hT2 hlT1 hlT2 HR hFIN hX92 hX54 hl92 hl54 hb92 hb54 hF hS1 hlS1 hbS1
        have HR := Aside0.mk HR2
        clear HR2
        go_wp2_with (first | ((with_reducible refine gate_builtin (b := .append) (xs := #[.tmp 37, .tmp 38]) rfl ?_); refine L_append rfl (.tmp 37) (.tmp 38) 22 rfl Try.underlying22 info5 w.heap.size (.slice Ab X54.length cb) X54 m A2 c2 rfl rfl HR.out.2.1 (Kd.C_below HMM.out HR.out.2.2.2) (by rw [HFX.out.2.2.1]; omega) HR.out.2.2.2.size ?_; intro v39 w39 hq39 hgr39 hat39; rw [← HT1.out] at hq39; have HS39 := Aside0.mk (HR.out.swap.push (Below.refl _ _) hq39 hgr39 hat39); obtain ⟨A39, c39, hv39, hle39⟩ := hq39.slice; subst hv39; clear hq39 hgr39 hat39) | (go_at_call 111; have _t := HS41.out; refine (refSumF_calls A41 c41 T2 _ HS41.out.1.C hle41 (by rw [HT2.out]; exact HFX.out.2.2.2.1.append HFX.out.2.2.2.2.2.2.1) (by rw [HLT.out.2]; omega)).mono ?_; rintro e w6 ⟨A6, c6, rfl, hle6, hC6, hb6, hf6⟩; have HF6 := Aside0.mk hf6; clear hf6; have HC6 := Aside0.mk hC6; have HB6 := Aside0.mk hb6; clear hC6 hb6) | (go_at_call 111; refine (refSum_calls A39 c39 T1 _ HS39.out.1.C hle39 (by rw [HT1.out]; exact HFX.out.2.2.2.2.1.append HBM.out) (Nat.le_trans HLT.out.1 (by decide))).mono ?_; rintro e w40 hn40; rw [← HFX.out.2.2.2.2.2.2.2] at hn40; obtain ⟨A40, c40, rfl, hle40, hC40, hb40⟩ := hn40; have HC40 := Aside0.mk hC40; have HB40 := Aside0.mk hb40; clear hC40 hb40) | ((with_reducible refine gate_builtin (b := .append) (xs := #[.tmp 36, .tmp 40]) rfl ?_); refine L_append rfl (.tmp 36) (.tmp 40) 22 rfl Try.underlying22 info5 w.heap.size (.slice Aa X92.length ca) X92 S1 A40 c40 rfl rfl ((HS39.out.below HB40.out).swap.1) HC40.out (by rw [HFX.out.2.1, HFX.out.2.2.2.2.2.1]; omega) ((HS39.out.below HB40.out).2.2.2.size) ?_; intro v41 w41 hq41 hgr41 hat41; rw [← HT2.out] at hq41; have HS41 := Aside0.mk ((HS39.out.below HB40.out).swap.push (Below.refl _ _) hq41 hgr41 hat41); obtain ⟨A41, c41, hv41, hle41⟩ := hq41.slice; subst hv41; clear hq41 hgr41 hat41))
        go_ret
        exact ⟨A6, c6, by rw [HFX.out.1]; rfl, by rw [HFX.out.1]; exact hle6, by rw [HFX.out.1]; exact HC6.out, below_step (below_step HB0.out HS41.out.2.2.2) HB6.out, fun k hk => Nat.le_trans (below_step HB0.out HS41.out.2.2.2).size (HF6.out k hk)⟩
end Go.Proofs.Ytdbfclfglpbpmaa.Sha

namespace Go.Proofs.Ytdbfclfglpbpmaa.Sha
open Go.RowKit Go.Proofs.YtdbfclfglpbpmaaW.Hand Go.Proofs.YtdbfclfglpbpmaaW.PrintWords Go.Proofs.YtdbfclfglpbpmaaW.PrintLast Go.Proofs.YtdbfclfglpbpmaaW.PrintMore Go.Proofs.Ytdbfclfglpbpmaa.PF25F Go.Proofs.Ytdbfclfglpbpmaa.Base Go.Proofs.Ytdbfclfglpbpmaa.LF25F
set_option linter.unusedVariables false
set_option linter.unusedSimpArgs false

theorem copy_next (S : List Int) (n k : Nat) (hl : S.length = n) (hk : k < n) : (S.take k ++ List.replicate (n - k) 0).set k (rd S (k : Nat)) = S.take (k + 1) ++ List.replicate (n - (k + 1)) 0 := by
  have hl2 : (S.take k).length = k := by rw [List.length_take]; omega
  rw [List.set_append_right _ _ (by omega), hl2, Nat.sub_self, List.take_succ_eq_append_getElem (by omega)]
  obtain ⟨d, hd⟩ : ∃ d, n - k = d + 1 := ⟨n - k - 1, by omega⟩
  rw [hd, List.replicate_succ, List.set_cons_zero, show n - (k + 1) = d by omega, List.append_assoc, rd_lt (by omega)]
  rfl
/-- The cells of a row that does not lie in block g. -/
def RowAt (w : World) (g : Nat) (A : Option Addr) (S : List Int) : Prop := (∀ k, k < S.length → ∃ ad, A = some ad ∧ w.cell? (ad.add k) = some (.int .u8 (rd S (k : Nat)))) ∧ ∀ k, A.map (·.block) = some k → k ≠ g
theorem C_cells2 {w : World} {g : Nat} {A : Option Addr} {S : List Int} (h : Kd.C (Kd.int .u8) w A S.length S) (hf : ∀ k, A.map (·.block) = some k → k ≠ g) : RowAt w g A S := ⟨fun k hk => C_atI h k hk, hf⟩
theorem RowAt.set {w : World} {g : Nat} {A : Option Addr} {S : List Int} (h : RowAt w g A S) (i : Nat) (v : Value) : RowAt (w.setCell ⟨g, i, none⟩ v) g A S := by
  refine ⟨fun k hk => ?_, h.2⟩
  obtain ⟨ad, rfl, hc⟩ := h.1 k hk
  refine ⟨ad, rfl, ?_⟩
  have hne : (ad.add k).block ≠ g := by rw [add_block]; exact h.2 _ rfl
  rw [← hc]
  unfold World.cell?
  rw [Below.heap_setCell w ⟨g, i, none⟩ v _ hne]
set_option maxHeartbeats 8000000 in
set_option maxRecDepth 100000 in
theorem refKey_calls (sec : List Int) (s : ByteArray) (A : Option Addr) (c : Nat) (nums : List Int) (w : World) (hsl : sec.length = 32) (hBs : Bytes sec) (hs : s.size ≤ 1000) (hC : Kd.C (Kd.int .i64) w A nums.length nums) (hcc : nums.length ≤ c) (hl : nums.length ≤ 1000) :
    Calls Try.prog 70 #[.agg (arr .u8 sec), .string s, .slice A nums.length c] w fun e w' => e = .returned (.agg (arr .u8 (keyL sec s nums))) ∧ Below w.heap.size w w' := by
  have HC := Aside0.mk hC
  have HBS := Aside0.mk hBs
  have HSL := Aside0.mk hsl
  clear hC hBs hsl
  obtain ⟨L, hL⟩ : ∃ L, L = labelL s nums := ⟨_, rfl⟩
  have hLl : L.length ≤ 100000 := by rw [hL, labelL_length]; omega
  have HLL := Aside0.mk hLl
  have HLB := Aside0.mk (show Bytes L by rw [hL]; exact labelL_bytes _ _)
  obtain ⟨S, hS⟩ : ∃ S, S = keyL sec s nums := ⟨_, rfl⟩
  have HSE := Aside0.mk (show S = hmacL sec [L] by rw [hS, hL]; rfl)
  have HS32 := Aside0.mk (show S.length = 32 by rw [hS]; exact keyL_length _ _ _)
  have HLE := Aside0.mk hL
  rw [← hS]
  clear hL hS hLl
  go_enter Try.func70, Try.ntmps70
  go_wp2_with (first | ((with_reducible refine gate_dst (N := 3) rfl ?_); refine L_box rfl 130 (.tmp 0) rfl (.agg (arr .u8 sec)) rfl ?_; intro g3 w1 hb3 hg3 hs3 hl3; have HB3 := Aside0.mk hb3; clear hb3; have HG3 := Aside0.mk hg3; clear hg3; have HS3 := Aside0.mk hs3; clear hs3; have HL3 := Aside0.mk hl3; clear hl3) | ((with_reducible refine gate_dst (N := 6) rfl ?_); refine L_alloc rfl 130 rfl (.agg (arr .u8 (List.replicate 32 0))) 32 (by kernel_rfl) ?_; intro g6 w2 hb6 hg6 hs6 hl6; have HB6 := Aside0.mk hb6; clear hb6; have HG6 := Aside0.mk hg6; clear hg6; have HS6 := Aside0.mk hs6; clear hs6; have HL6 := Aside0.mk hl6; clear hl6) | ((with_reducible refine gate_dst (N := 7) rfl ?_); refine L_alloc rfl 130 rfl (.agg (arr .u8 (List.replicate 32 0))) 32 (by kernel_rfl) ?_; intro g7 w3 hb7 hg7 hs7 hl7; have HB7 := Aside0.mk hb7; clear hb7; have HG7 := Aside0.mk hg7; clear hg7; have HS7 := Aside0.mk hs7; clear hs7; have HL7 := Aside0.mk hl7; clear hl7))
  have HE := Aside0.mk (And.intro ((HL7.out.block g3 (by have := blk_lt HB3.out; have := HL6.out.size; omega)).trans ((HL6.out.block g3 (blk_lt HB3.out)).trans HB3.out)) (And.intro ((HL7.out.block g6 (blk_lt HB6.out)).trans HB6.out) (And.intro HB7.out (And.intro (below_step (below_step HL3.out HL6.out) HL7.out) (And.intro (show w.heap.size ≤ g6 by have := HG6.out; have := HL3.out.size; omega) (show w.heap.size ≤ g7 ∧ g6 ≠ g7 by have := HG7.out; have := HG6.out; have := HS6.out; have := HL3.out.size; have := HL6.out.size; omega))))))
  have hCs : Kd.C (Kd.int .u8) w3 (some ⟨g3, 0, none⟩) sec.length sec := C_arr HE.out.1 (by rw [HSL.out]; omega)
  have hcall : ∀ W A4 c4, Kd.C (Kd.int .u8) W (some ⟨g3, 0, none⟩) sec.length sec → Kd.C (Kd.int .u8) W A4 L.length L → L.length ≤ c4 → Calls Try.prog 95 #[.slice (some ⟨g3, 0, none⟩) 32 32, .slice A4 L.length c4] W fun e w' => NewRowF W w' e S := by
    intro W A4 c4 h1 h2 h3
    have := refHmacF_calls (some ⟨g3, 0, none⟩) 32 sec A4 c4 L W h1 (by rw [HSL.out]; omega) HBS.out (by rw [HSL.out]; omega) h2 h3 HLB.out (by have := HLL.out; omega)
    rw [HSL.out, ← HSE.out] at this
    exact this
  have HCALL := Aside0.mk hcall
  have HCS := Aside0.mk hCs
  have HCN := Aside0.mk (Kd.C_below HC.out HE.out.2.2.2.1)
  clear hCs hcall HB3 HG3 HS3 HL3 HB6 HG6 HS6 HL6 HB7 HG7 HS7 HL7
  go_region_with ((first | (go_at_call 96; refine (refOf_calls s A c nums _ (by omega) (by first | with_reducible exact Kd.C_drew HCN.out | with_reducible exact HCN.out) hcc (by omega)).mono ?_; rintro e w4 hn; rw [← HLE.out] at hn; obtain ⟨A4, c4, rfl, hle4, hC4, hb4⟩ := hn; have HC4 := Aside0.mk hC4; have HB4 := Aside0.mk hb4; clear hC4 hb4) | (go_at_call 95; refine (HCALL.out _ A4 c4 (Kd.C_below (by first | with_reducible exact Kd.C_drew HCS.out | with_reducible exact HCS.out) HB4.out) HC4.out hle4).mono ?_; rintro e w5 ⟨A5, c5, rfl, hle5, hC5, hb5, hf5⟩; have HF5 := Aside0.mk hf5; clear hf5; have HC5 := Aside0.mk hC5; have HB5 := Aside0.mk hb5; clear hC5 hb5)))
  have hb35 : Below w3.heap.size w3 w5 := below_step (below_step (below_drew (Below.refl _ _)) HB4.out) HB5.out
  have hI : Aside0 (w5.heap[g7]? = some (.cells (arr .u8 (S.take 0 ++ List.replicate (32 - 0) 0)) 130 (0, 0)) ∧ w5.heap[g6]? = some (.cells (arr .u8 (List.replicate 32 0)) 130 (0, 0)) ∧ Below w.heap.size w w5) := ⟨by rw [show S.take 0 ++ List.replicate (32 - 0) 0 = List.replicate 32 (0 : Int) by simp]; exact (hb35.block g7 (blk_lt HE.out.2.2.1)).trans HE.out.2.2.1, (hb35.block g6 (blk_lt HE.out.2.1)).trans HE.out.2.1, below_step HE.out.2.2.2.1 hb35⟩
  have hap : Aside0 (∀ k, A5.map (·.block) = some k → k ≠ g7) := ⟨fun k hk e => by have := HF5.out k hk; have h7 := blk_lt HE.out.2.2.1; have := HB4.out.size; have h3 : w3.drew.heap.size = w3.heap.size := rfl; omega⟩
  have hCI := HC5.out
  have HCI := Aside0.mk (And.intro hI.out (C_cells2 hCI hap.out))
  clear hI hCI hb35
  go_wp2
  go_loopw [9] (fun i wr => ∃ k : Nat, k ≤ 32 ∧ i = .int .i64 k ∧ Aside0 ((wr.heap[g7]? = some (.cells (arr .u8 (S.take k ++ List.replicate (32 - k) 0)) 130 (0, 0)) ∧ wr.heap[g6]? = some (.cells (arr .u8 (List.replicate 32 0)) 130 (0, 0)) ∧ Below w.heap.size w wr) ∧ RowAt wr g7 A5 S)) (fun i _ => 32 - (intOf i).toNat)
  case atStart => exact ⟨0, by omega, rfl, HCI⟩
  case round =>
    clear HCI
    obtain ⟨k, hk, rfl, HR⟩ := hrel
    by_cases hlt : k < 32
    · obtain ⟨ad, hAd, hcx⟩ := HR.out.2.1 k (by rw [HS32.out]; exact hlt)
      subst hAd
      obtain ⟨x, hx⟩ : ∃ x, x = rd S (k : Nat) := ⟨_, rfl⟩
      rw [← hx] at hcx
      have HX := Aside0.mk hx
      have hsl5 : (k : Int) < (S.length : Int) := by rw [HS32.out]; omega
      have hck : wr.cell? ⟨g7, k, none⟩ = some (.int .u8 (rd (S.take k ++ List.replicate (32 - k) 0) (k : Nat))) := by
        rw [blk_cell HR.out.1.1 k, arr_get _ _ _ (by rw [List.length_append, List.length_take, List.length_replicate, HS32.out]; omega)]
      have hfk : wr.frozen? ⟨g7, k, none⟩ = false := blk_frozen HR.out.1.1 k
      clear hx
      go_wp2
      go_roundw
      case rel =>
        refine ⟨k + 1, by omega, by go_num, ⟨⟨?_, ?_, HR.out.1.2.2.setCell HE.out.2.2.2.2.2.1 _⟩, HR.out.2.set k _⟩⟩
        · refine (blk_set HR.out.1.1 k _).trans ?_
          have := copy_next S 32 k HS32.out hlt
          rw [arr_set, HX.out, this]
        · exact (Below.heap_setCell wr ⟨g7, k, none⟩ _ g6 (fun e => HE.out.2.2.2.2.2.2 e)).trans HR.out.1.2.1
      case measure => simp [intOf]; omega
    · obtain rfl : k = 32 := by omega
      have HR7 := Aside0.mk (show wr.heap[g7]? = some (.cells (arr .u8 S) 130 (0, 0)) by have := HR.out.1.1; rw [List.take_of_length_le (by rw [HS32.out]; omega)] at this; simpa using this)
      have HR6 := Aside0.mk HR.out.1.2.1
      have HBE := Aside0.mk HR.out.1.2.2
      clear HR
      go_wp2_with (first | ((with_reducible refine gate_dst (N := 25) rfl ?_); refine L_load rfl 130 (.tmp 7) rfl g7 rfl 130 (arr .u8 S) _ (HR7.out) Try.underlying130 rfl (by rw [arr_size, HS32.out]; kernel_rfl) ?_) | (refine L_store rfl rfl 130 (.tmp 6) (.tmp 25) (by rfl) g6 (arr .u8 S) (by rfl) (by rfl) (arr .u8 (List.replicate 32 0)) 130 (HR6.out) (by rw [arr_size, arr_size, HS32.out]; rfl) (by rw [arr_size, HS32.out]; kernel_rfl) (arr_one _ _) ?_; intro w9 hbw9 huw9; have HBW9 := Aside0.mk hbw9; clear hbw9; have HUW9 := Aside0.mk huw9; clear huw9))
      exact ret_cell rfl rfl g6 rfl (arr .u8 S) 130 _ HBW9.out Try.underlying130 rfl (by rw [arr_size, HS32.out]; kernel_rfl) ⟨rfl, HUW9.out.below HBE.out HE.out.2.2.2.2.1⟩
end Go.Proofs.Ytdbfclfglpbpmaa.Sha

namespace Go.Proofs.Ytdbfclfglpbpmaa.Sha
open Go.RowKit Go.Proofs.YtdbfclfglpbpmaaW.Hand Go.Proofs.YtdbfclfglpbpmaaW.PrintWords Go.Proofs.YtdbfclfglpbpmaaW.PrintLast Go.Proofs.YtdbfclfglpbpmaaW.PrintMore Go.Proofs.Ytdbfclfglpbpmaa.PF25F Go.Proofs.Ytdbfclfglpbpmaa.Base Go.Proofs.Ytdbfclfglpbpmaa.LF25F
set_option linter.unusedVariables false
set_option linter.unusedSimpArgs false
end Go.Proofs.Ytdbfclfglpbpmaa.Sha

