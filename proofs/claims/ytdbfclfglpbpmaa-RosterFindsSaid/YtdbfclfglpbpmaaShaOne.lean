/- Hand-written walks and plain lemmas: what each Go function comes to (ShaA, ShaB, ShaC, ShaD, ShaE, ShaF, ShaG, ShaH, ShaI, ShaP, ShaQ, ShaL, ShaR, ShaS, ShaO, ShaT). No condition. -/
import Derived.Test.YtdbfclfglpbpmaaPF25Fx
import Derived.Test.YtdbfclfglpbpmaaLF25F
import Derived.Deep.MidRow
import Derived.Deep.RegionHeld3
import Derived.Deep.DrawnRows
import Derived.StillTailTactics
import Derived.BigRegion
import Derived.Laws.CopyOwn
import Derived.ChangeKeysEq
import Derived.Laws.StructEq
import Derived.Laws.MakeOwn
namespace Go.Proofs.Ytdbfclfglpbpmaa.Sha
open Go.RowKit Go.Proofs.YtdbfclfglpbpmaaW.Hand Go.Proofs.YtdbfclfglpbpmaaW.PrintWords Go.Proofs.YtdbfclfglpbpmaaW.PrintLast Go.Proofs.YtdbfclfglpbpmaaW.PrintMore Go.Proofs.Ytdbfclfglpbpmaa.PF25F
set_option linter.unusedVariables false
set_option linter.unusedSimpArgs false
/-! ### arrays as lists of numbers -/
def arr (k : IntKind) (xs : List Int) : Array Value := (xs.map (Value.int k)).toArray
theorem arr_size (k : IntKind) (xs : List Int) : (arr k xs).size = xs.length := by simp [arr]
theorem arr_one (k : IntKind) (xs : List Int) : (arr k xs).all (·.oneCell') = true := by
  refine Array.all_eq_true_iff_forall_mem.2 (fun v hv => ?_)
  simp [arr] at hv
  obtain ⟨x, _, rfl⟩ := hv
  rfl
theorem arr_get (k : IntKind) (xs : List Int) (i : Nat) (h : i < xs.length) : (arr k xs)[i]? = some (.int k (rd xs i)) := by
  unfold arr rd
  simp [h, List.getD_eq_getElem?_getD]
theorem arr_set (k : IntKind) (xs : List Int) (i : Nat) (x : Int) : (arr k xs).setIfInBounds i (.int k x) = arr k (xs.set i x) := by
  unfold arr
  simp [List.map_set]
theorem quiet_add {P : Program} {f : FuncId} {args : Array Value} {w : World} {a n : Nat} {v : Value}
    (h : Calls P f args (w.drewN (a + n)) fun e w' => e = .returned v ∧ ∃ m, w' = (w.drewN (a + n)).drewN m) :
    Calls P f args (w.drewN (a + n)) fun e w'' => e = .returned v ∧ ∃ m, w'' = w.drewN (a + m) :=
  h.mono fun _ _ ⟨he, m, hm⟩ => ⟨he, n + m, by rw [hm, World.drewN_drewN, Nat.add_assoc]⟩
/-- w' is w but for what block g holds. -/
structure Upd (w w' : World) (g : Nat) : Prop where
  os : w'.os = w.os
  tape : w'.tape = w.tape
  output : w'.output = w.output
  size : w'.heap.size = w.heap.size
  block : ∀ k, k ≠ g → w'.heap[k]? = w.heap[k]?
theorem Upd.below {w w' w0 : World} {g B : Nat} (h : Upd w w' g) (hb : Below B w0 w) (hg : B ≤ g) : Below B w0 w' :=
  hb.trans ⟨h.os, h.tape, h.output, by rw [h.size]; exact Nat.le_refl _, fun k hk => h.block k (by omega)⟩
section
variable {P : Program} {ops : Array Oper} {rest : List Oper} {o : Oper} {a : Act} {W : World} {Q : Exit → Act → World → Prop}
theorem L_store (hgd : o.guard = none) (hd : o.dst = none) (ty : TypeId) (x y : Operand) (ho : o.op = .store ty x y) (g : Nat) (cells : Array Value) (hx : a.eval x = .pointer (some ⟨g, 0, none⟩)) (hy : a.eval y = .agg cells)
    (old : Array Value) (t : TypeId) (hg : W.heap[g]? = some (.cells old t (0, 0))) (hs : old.size = cells.size) (hi : (P.info? ty).map (·.size) = some cells.size) (h1 : cells.all (·.oneCell') = true)
    (h : ∀ w', w'.heap[g]? = some (.cells cells t (0, 0)) → Upd W w' g → wpList P ops Q rest a w') : wpList P ops Q (o :: rest) a W := by
  refine wpList_plain hgd fun K hK => wp_store_row ty x y ho g cells hx hy t old hg hi hs h1 (hK _ _ ?_)
  rw [hd]
  exact h _ (setRow_heap W g old cells t (0, 0) hg) ⟨rfl, rfl, rfl, setRow_size W g cells, fun k hk => setRow_other W g k cells hk⟩
theorem L_load (hgd : o.guard = none) (ty : TypeId) (x : Operand) (ho : o.op = .load ty x) (g : Nat) (hx : a.eval x = .pointer (some ⟨g, 0, none⟩)) (t : TypeId) (cells : Array Value) (d : TypeDesc)
    (hg : W.heap[g]? = some (.cells cells t (0, 0))) (hu : P.underlying ty = some d) (hd : (match d with | .struct _ | .array _ _ => true | _ => false) = true) (hi : (P.info? ty).map (·.size) = some cells.size)
    (h : wpList P ops Q rest (a.put o.dst (.agg cells)) W) : wpList P ops Q (o :: rest) a W :=
  wpList_plain hgd fun K hK => wp_load_row ty x ho g hx t cells (0, 0) d hg hu hd hi (hK _ _ h)
theorem L_alloc (hgd : o.guard = none) (ty : TypeId) (ho : o.op = .alloc ty) (v : Value) (n : Nat) (hinfo : (P.info? ty).map (fun i => (i.zero, i.size)) = some (some v, n))
    (h : ∀ g w1, w1.heap[g]? = some (.cells v.cells ty (0, 0)) → W.heap.size = g → w1.heap.size = g + 1 → Below W.heap.size W w1 → wpList P ops Q rest (a.put o.dst (.pointer (some ⟨g, 0, none⟩))) w1) : wpList P ops Q (o :: rest) a W := by
  cases hq : P.info? ty with
  | none => simp [hq] at hinfo
  | some i =>
    simp [hq] at hinfo
    refine Kd.event_run hgd (v := .pointer (some ⟨W.heap.size, 0, none⟩)) (w1 := W.alloc (.cells v.cells ty)) ?_ (h _ _ (heap_alloc_new W _) rfl (by show (W.heap.push _).size = _; simp) ((Below.refl _ _).alloc (Nat.le_refl _) _))
    simp [execOp, ho, Instr.alloc, zeroValue, typeInfo, hq, hinfo.1, newVar, newRow, newObj]
    rfl
end
/-- A result that lies in a block that is known whole. -/
theorem ret_cell {P : Program} {fn : Func} {R : Ending → World → Prop} {a : Act} {w : World} {t : Tmp} {ty : TypeId} (h : fn.results = #[.cell t ty]) (hd : a.defers = []) (g : Nat) (hv : a.tmps.getD t undef = .pointer (some ⟨g, 0, none⟩)) (cells : Array Value) (t' : TypeId) (d : TypeDesc)
    (hg : w.heap[g]? = some (.cells cells t' (0, 0))) (hu : P.underlying ty = some d) (hdd : (match d with | .struct _ | .array _ _ => true | _ => false) = true) (hi : (P.info? ty).map (·.size) = some cells.size) (hR : R (.returned (.agg cells)) w) : bodyPost P fn R .ret a w := by
  refine bodyPost_ret (v := .agg cells) ?_ hd hR
  exact results_cell_row h a.tmps w g t' cells (0, 0) d hv hg hu hdd hi
/-! ### the plain functions -/
def rot (x : Int) (n : Nat) : Int := (word_Rot.f x n).getD 0
def xo (a b : Int) : Int := Go.bits .xor .u32 a b
def an (a b : Int) : Int := Go.bits .and .u32 a b
def S1 (e : Int) : Int := xo (xo (rot e 6) (rot e 11)) (rot e 25)
def S0 (a : Int) : Int := xo (xo (rot a 2) (rot a 13)) (rot a 22)
def ch (e f g : Int) : Int := xo (an e f) (an (xo IntKind.u32.max e) g)
def maj (a b c : Int) : Int := xo (xo (an a b) (an a c)) (an b c)
def tt (e f g z k x : Int) : Int := z + S1 e + ch e f g + k + x
def uu (a b c : Int) : Int := S0 a + maj a b c
def rnd (v : List Int) (k x : Int) : List Int :=
  match v with
  | [a, b, c, d, e, f, g, z] => [(tt e f g z k x + uu a b c) % 4294967296, a, b, c, (d + tt e f g z k x) % 4294967296, e, f, g]
  | _ => v
theorem rnd_length (v : List Int) (k x : Int) : (rnd v k x).length = v.length := by
  unfold rnd
  split <;> rfl
def sg0 (a : Int) : Int := xo (xo (rot a 7) (rot a 18)) (a / 8)
def sg1 (b : Int) : Int := xo (xo (rot b 17) (rot b 19)) (b / 1024)
def schedStep (w : List Int) : Int := (rd w ((w.length - 16 : Nat) : Int) + sg0 (rd w ((w.length - 15 : Nat) : Int)) + rd w ((w.length - 7 : Nat) : Int) + sg1 (rd w ((w.length - 2 : Nat) : Int))) % 4294967296
def sched (l : List Int) : Nat → List Int
  | 0 => l
  | n + 1 => sched l n ++ [schedStep (sched l n)]
theorem sched_length (l : List Int) (n : Nat) : (sched l n).length = l.length + n := by
  induction n with
  | zero => rfl
  | succ n ih => simp [sched, ih]; omega
theorem rot_some (x : Int) (n : Nat) (hn : n < 32) : word_Rot.f x n = some (rot x n) := by
  unfold rot
  have : ∃ r, word_Rot.f x n = some r := by
    unfold word_Rot.f bits_RotateLeft32.f
    have h0 : ∀ y : Int, 0 ≤ IntKind.u64.wrap y := fun y => by rw [IntKind.wrap_u64]; omega
    have h1 : ∀ y z : Int, 0 ≤ Go.bits .and .u64 y z := fun y z => by unfold Go.bits; exact h0 _
    rw [if_pos (h1 _ _), if_pos (h0 _)]
    exact ⟨_, rfl⟩
  obtain ⟨r, hr⟩ := this
  rw [hr]
  rfl
theorem rot_calls (x : Int) (n : Nat) (hn : n < 32) (w : World) : Calls Try.prog 145 #[.int .u32 x, .int .i64 n] w fun e w' => e = .returned (.int .u32 (rot x n)) ∧ ∃ m, w' = w.drewN m :=
  (word_Rot.calls x n _ w (rot_some x n hn)).mono fun e w' ⟨he, h⟩ => ⟨he, h.out⟩
set_option maxHeartbeats 8000000 in
set_option maxRecDepth 100000 in
theorem round_calls (v : List Int) (hv : v.length = 8) (k x : Int) (w : World) :
    Calls Try.prog 144 #[.agg (arr .u32 v), .int .u32 k, .int .u32 x] w fun e w' => e = .returned (.agg (arr .u32 (rnd v k x))) ∧ Below w.heap.size w w' := by
  obtain ⟨a0, a1, a2, a3, a4, a5, a6, a7, rfl⟩ : ∃ a0 a1 a2 a3 a4 a5 a6 a7, v = [a0, a1, a2, a3, a4, a5, a6, a7] := by
    match v, hv with
    | [a0, a1, a2, a3, a4, a5, a6, a7], _ => exact ⟨_, _, _, _, _, _, _, _, rfl⟩
  clear hv
  show Calls Try.prog 144 #[.agg #[.int .u32 a0, .int .u32 a1, .int .u32 a2, .int .u32 a3, .int .u32 a4, .int .u32 a5, .int .u32 a6, .int .u32 a7], .int .u32 k, .int .u32 x] w _
  go_enter Try.func144, Try.ntmps144
  go_wp2
  go_quiet (fail)
  go_wp2
  go_quiet ((go_at_call 145; exact quiet_add (rot_calls _ _ (by decide) _)))
  go_wp2_with (go_at_call 145; refine (rot_calls _ _ (by decide) _).mono ?_; rintro e w' ⟨rfl, m, rfl⟩)
  exact bodyPost_ret (v := .agg #[.int .u32 ((tt a4 a5 a6 a7 k x + uu a0 a1 a2) % 4294967296), .int .u32 a0, .int .u32 a1, .int .u32 a2, .int .u32 ((a3 + tt a4 a5 a6 a7 k x) % 4294967296), .int .u32 a4, .int .u32 a5, .int .u32 a6]) (by simp [results, Try.results43, go_sem, tt, uu, S0, S1, ch, maj, xo, an]) rfl ⟨rfl, by (repeat (first | (with_reducible exact Below.refl _ _) | refine Below.setCell ?_ (by simp) _ | refine pw_below_drewN ?_ _ | refine Below.alloc ?_ (by simp) _))⟩
theorem sched_next (l : List Int) (k : Nat) (hl : l.length = 16) (h16 : 16 ≤ k) (h64 : k < 64) :
    (sched l (k - 16) ++ List.replicate (64 - k) 0).set k (schedStep (sched l (k - 16))) = sched l (k + 1 - 16) ++ List.replicate (64 - (k + 1)) 0 := by
  have hll : (sched l (k - 16)).length = k := by rw [sched_length]; omega
  rw [show k + 1 - 16 = (k - 16) + 1 by omega, sched, List.set_append_right _ _ (by omega), hll, Nat.sub_self]
  obtain ⟨d, hd⟩ : ∃ d, 64 - k = d + 1 := ⟨64 - k - 1, by omega⟩
  rw [hd, List.replicate_succ, List.set_cons_zero, show 64 - (k + 1) = d by omega, List.append_assoc]
  rfl
theorem C_cells {k : IntKind} {w : World} {A : Option Addr} {xs : List Int} (h : Kd.C (Kd.int k) w A xs.length xs) (hp : 0 < xs.length) : ∃ ad, A = some ad ∧ ∀ (j : Nat) (v : Value), (xs.map (Value.int k))[j]? = some v → w.cell? (ad.add j) = some v := by
  obtain ⟨ad, e, hc⟩ := h.2.2 hp
  refine ⟨ad, e, fun j v hv => ?_⟩
  have hj : j < xs.length := by have := (List.getElem?_eq_some_iff.1 hv).1; simpa using this
  obtain ⟨cs, h1, h2, h3⟩ := hc j xs[j] (List.getElem?_eq_getElem hj)
  have e2 : cs = [.int k xs[j]] := h2
  subst e2
  have := h3 0 (.int k xs[j]) rfl
  have hv' : Value.int k xs[j] = v := by simpa [hj] using hv
  rw [← hv']
  rwa [Nat.add_zero, show (Kd.int k).sz = 1 from rfl, Nat.mul_one] at this
set_option maxHeartbeats 8000000 in
set_option maxRecDepth 100000 in
theorem schedule_calls (A : Option Addr) (c : Nat) (l : List Int) (hl : l.length = 16) (w : World) (hC : Kd.C (Kd.int .u32) w A l.length l) :
    Calls Try.prog 142 #[.slice A l.length c] w fun e w' => e = .returned (.agg (arr .u32 (sched l 48))) ∧ Below w.heap.size w w' := by
  have HC := Aside0.mk hC
  have HL := Aside0.mk hl
  clear hC hl
  go_enter Try.func142, Try.ntmps142
  go_wp2_with (first | ((with_reducible refine gate_dst (N := 2) rfl ?_); refine L_alloc rfl 224 rfl (.agg (arr .u32 (List.replicate 64 0))) 64 (by kernel_rfl) ?_; intro g2 w1 hb2 hg2 hs1 hB1; have HB2 := Aside0.mk hb2; have HBe1 := Aside0.mk hB1; have HG2 := Aside0.mk hg2; have HS1 := Aside0.mk hs1; clear hb2 hB1 hg2 hs1) | ((with_reducible refine gate_dst (N := 3) rfl ?_); refine L_alloc rfl 224 rfl (.agg (arr .u32 (List.replicate 64 0))) 64 (by kernel_rfl) ?_; intro g3 w2 hb3 hg3 hs2 hB2; have HB3 := Aside0.mk hb3; have HBe2 := Aside0.mk hB2; have HG3 := Aside0.mk hg3; have HS2 := Aside0.mk hs2; clear hb3 hB2 hg3 hs2) | ((with_reducible refine gate_builtin (b := .copy) (xs := #[.tmp 9, .tmp 10]) rfl ?_); refine wpList_copy_splice rfl (.tmp 9) (.tmp 10) 196 196 rfl 199 Try.underlying196 (by kernel_rfl) (some ⟨g3, 0, none⟩) A 64 64 l.length c rfl rfl g3 0 (List.replicate 64 (Value.int .u32 0)) 224 (by rw [HB3.out]; rfl) (l.map (Value.int .u32)) (by have := HL.out; rw [List.length_map, this]; rfl) (fun hp => ⟨rfl, ?c1⟩) (by have := HL.out; simp; omega) (by intro v hv; obtain ⟨x, _, rfl⟩ := List.mem_map.1 hv; rfl) g3 w2 (Below.refl _ _) (Nat.le_refl _) ?_; (case c1 => exact C_cells (Kd.C_below (Kd.C_below HC.out HBe1.out) (by rw [HG3.out.symm] at *; exact HBe2.out)) (by have := HL.out; omega)); intro w3 hb3 hB3; have HD3 := Aside0.mk hb3.out; have HBe3 := Aside0.mk hB3; clear hb3 hB3))
  have hlt23 : g2 < g3 := by have := HG3.out; have := HS1.out; omega
  have hK3 : w3.heap[g3]? = some (.cells (arr .u32 (sched l (16 - 16) ++ List.replicate (64 - 16) 0)) 224 (0, 0)) := by
    rw [HD3.out]
    have := HL.out
    simp [splice, arr, sched, this]
  have hK2 : w3.heap[g2]? = some (.cells (arr .u32 (List.replicate 64 0)) 224 (0, 0)) := by
    rw [HBe3.out.block g2 hlt23, HBe2.out.block g2 (by have := HG3.out; omega), HB2.out]
    rfl
  have hbase : Below w.heap.size w w3 := (HBe1.out.trans (HBe2.out.mono (by have := HG2.out; have := HS1.out; omega))).trans (HBe3.out.mono (by have := HG2.out; omega))
  have HINV := Aside0.mk (And.intro hK3 (And.intro hK2 hbase))
  have hg2w : w.heap.size ≤ g2 := Nat.le_of_eq HG2.out
  clear hK3 hK2 hbase HBe1 HBe2 HBe3 HD3 HB2 HB3 HG2 HG3 HS1 HS2
  go_loopw [4] (fun i wr => ∃ k : Nat, 16 ≤ k ∧ k ≤ 64 ∧ i = .int .i64 k ∧ Aside0 (wr.heap[g3]? = some (.cells (arr .u32 (sched l (k - 16) ++ List.replicate (64 - k) 0)) 224 (0, 0)) ∧ wr.heap[g2]? = some (.cells (arr .u32 (List.replicate 64 0)) 224 (0, 0)) ∧ Below w.heap.size w wr)) (fun i _ => 64 - (intOf i).toNat)
  case atStart => exact ⟨16, by omega, by omega, rfl, HINV⟩
  case round =>
    clear HINV
    obtain ⟨k, hk16, hk64, rfl, HR⟩ := hrel
    by_cases hlt : k < 64
    · have hlen : (sched l (k - 16) ++ List.replicate (64 - k) 0).length = 64 := by have := HL.out; rw [List.length_append, sched_length, List.length_replicate]; omega
      obtain ⟨hb3, hb2, hbe⟩ := HR.out
      have hcell : ∀ j, j < k → wr.cell? ⟨g3, j, none⟩ = some (.int .u32 (rd (sched l (k - 16)) (j : Nat))) := fun j hj => by
        have hj2 : j < (sched l (k - 16)).length := by have := HL.out; rw [sched_length]; omega
        rw [blk_cell hb3 j, arr_get _ _ _ (by omega)]
        congr 2
        unfold rd
        simp only [Int.toNat_natCast, List.getD_eq_getElem?_getD]
        rw [List.getElem?_append_left hj2]
      have hc15 := hcell (k - 15) (by omega)
      have hc2 := hcell (k - 2) (by omega)
      have hc16 := hcell (k - 16) (by omega)
      have hc7 := hcell (k - 7) (by omega)
      obtain ⟨x15, hx15⟩ : ∃ x, x = rd (sched l (k - 16)) ((k - 15 : Nat) : Int) := ⟨_, rfl⟩
      obtain ⟨x2, hx2⟩ : ∃ x, x = rd (sched l (k - 16)) ((k - 2 : Nat) : Int) := ⟨_, rfl⟩
      obtain ⟨x16, hx16⟩ : ∃ x, x = rd (sched l (k - 16)) ((k - 16 : Nat) : Int) := ⟨_, rfl⟩
      obtain ⟨x7, hx7⟩ : ∃ x, x = rd (sched l (k - 16)) ((k - 7 : Nat) : Int) := ⟨_, rfl⟩
      rw [← hx15] at hc15
      rw [← hx2] at hc2
      rw [← hx16] at hc16
      rw [← hx7] at hc7
      have hck : wr.cell? ⟨g3, k, none⟩ = some (.int .u32 (rd (sched l (k - 16) ++ List.replicate (64 - k) 0) (k : Nat))) := by rw [blk_cell hb3 k, arr_get _ _ _ (by omega)]
      have hfk : wr.frozen? ⟨g3, k, none⟩ = false := blk_frozen hb3 k
      have HX := Aside0.mk (And.intro hx15 (And.intro hx2 (And.intro hx16 hx7)))
      have HLEN := Aside0.mk hlen
      clear hcell hb3 hb2 hbe hx15 hx2 hx16 hx7 hlen
      go_wp2
      go_quiet (fail)
      go_wp2_with (go_at_call 145; refine (rot_calls _ _ (by decide) _).mono ?_; rintro e w' ⟨rfl, m, rfl⟩)
      go_region
      go_wp2
      go_roundw
      case rel =>
        refine ⟨k + 1, by omega, by omega, by go_num, ⟨?_⟩⟩
        obtain ⟨hb3, hb2, hbe⟩ := HR.out
        obtain ⟨e15, e2, e16, e7⟩ := HX.out
        refine ⟨?_, ?_, ?_⟩
        · refine (blk_set (w := wr.drewN _) hb3 k _).trans ?_
          rw [arr_set, ← sched_next l k HL.out hk16 hlt]
          unfold schedStep
          have hll : (sched l (k - 16)).length = k := by have := HL.out; rw [sched_length]; omega
          rw [hll, ← e15, ← e2, ← e16, ← e7]
          rfl
        · exact (blk_far (w := wr.drewN _) hb2 (p := ⟨g3, k, none⟩) (Nat.ne_of_lt hlt23) _)
        · exact (pw_below_drewN hbe _).setCell (Nat.le_trans hg2w (Nat.le_of_lt hlt23)) _
      case measure => simp [intOf]; omega
    · obtain rfl : k = 64 := by omega
      have HR' : wr.heap[g3]? = some (.cells (arr .u32 (sched l 48)) 224 (0, 0)) ∧ wr.heap[g2]? = some (.cells (arr .u32 (List.replicate 64 0)) 224 (0, 0)) ∧ Below w.heap.size w wr := by
        have := HR.out
        simpa using this
      have HR' := Aside0.mk HR'
      clear HR
      go_wp2_with (first | ((with_reducible refine gate_dst (N := 55) rfl ?_); refine L_load rfl 224 (.tmp 3) rfl g3 rfl 224 (arr .u32 (sched l 48)) _ HR'.out.1 Try.underlying224 rfl (by rw [arr_size, sched_length, HL.out]; kernel_rfl) ?_) | (refine L_store rfl rfl 224 (.tmp 2) (.tmp 55) rfl g2 (arr .u32 (sched l 48)) rfl rfl _ 224 HR'.out.2.1 (by rw [arr_size, arr_size, sched_length, HL.out]; rfl) (by rw [arr_size, sched_length, HL.out]; kernel_rfl) (arr_one _ _) ?_; intro w9 hb9 hU))
      exact ret_cell rfl rfl g2 rfl (arr .u32 (sched l 48)) 224 _ hb9 Try.underlying224 rfl (by rw [arr_size, sched_length, HL.out]; kernel_rfl) ⟨rfl, hU.below HR'.out.2.2 hg2w⟩
end Go.Proofs.Ytdbfclfglpbpmaa.Sha

namespace Go.Proofs.Ytdbfclfglpbpmaa.Sha
open Go.RowKit Go.Proofs.YtdbfclfglpbpmaaW.Hand Go.Proofs.YtdbfclfglpbpmaaW.PrintWords Go.Proofs.YtdbfclfglpbpmaaW.PrintLast Go.Proofs.YtdbfclfglpbpmaaW.PrintMore Go.Proofs.Ytdbfclfglpbpmaa.PF25F
set_option linter.unusedVariables false
set_option linter.unusedSimpArgs false
/-- A region that draws its order: what only reads is walked first, in the text's order; then its tail. -/
theorem region_tail {P : Program} {id : Nat} {Q : Exit → Act → World → Prop} {a : Act} {w : World} {l : List Oper} (n : Nat) (hm : P.follows .mixedOrders = true) (hB : Region.lexTailB .any l.toArray n = true)
    (h : ∀ W, W.heap = w.heap → Drawn0 w W → wpStill P l.toArray W (fun a' => wpList P l.toArray Q (l.drop n) a' W) (l.take n) a) : (Code.region id l.toArray true).wp P Q a w :=
  wp_region_still_tail n hm hB (h (w.drewN 1) rfl ⟨⟨1, rfl⟩⟩)
section
variable {P : Program} {ops : Array Oper} {rest : List Oper} {o : Oper} {a : Act} {W : World} {Q : Act → Prop}
theorem S_val {v : Value} (hgd : o.guard = none) (hrun : (execOp a.eval o).run P W = .ok (.value v) W) (h : wpStill P ops W Q rest (a.put o.dst v)) : wpStill P ops W Q (o :: rest) a := by
  unfold wpStill
  rw [if_pos (by unfold Region.wanted; rw [hgd])]
  unfold Oper.still
  rw [hrun]
  exact ⟨rfl, h⟩
theorem S_load (hgd : o.guard = none) (ty : TypeId) (x : Operand) (ho : o.op = .load ty x) (g : Nat) (hx : a.eval x = .pointer (some ⟨g, 0, none⟩)) (t : TypeId) (cells : Array Value) (d : TypeDesc)
    (hg : W.heap[g]? = some (.cells cells t (0, 0))) (hu : P.underlying ty = some d) (hd : (match d with | .struct _ | .array _ _ => true | _ => false) = true) (hi : (P.info? ty).map (·.size) = some cells.size)
    (h : wpStill P ops W Q rest (a.put o.dst (.agg cells))) : wpStill P ops W Q (o :: rest) a :=
  S_val hgd (v := .agg cells) (by unfold execOp; simp only [ho, hx, Instr.loadAt, Instr.sureAddr, Sem.run_bind, Sem.run_pure, Result.andThen_ok, run_loadVar_row W g t ty cells (0, 0) d hg hu hd hi]) h
end
section
variable {P : Program} {ops : Array Oper} {rest : List Oper} {o : Oper} {a : Act} {W : World} {Q : Exit → Act → World → Prop}
theorem L_box (hgd : o.guard = none) (ty : TypeId) (x : Operand) (ho : o.op = .box ty x) (v : Value) (hx : a.eval x = v)
    (h : ∀ g w1, w1.heap[g]? = some (.cells v.cells ty (0, 0)) → W.heap.size = g → w1.heap.size = g + 1 → Below W.heap.size W w1 → wpList P ops Q rest (a.put o.dst (.pointer (some ⟨g, 0, none⟩))) w1) : wpList P ops Q (o :: rest) a W := by
  refine Kd.event_run hgd (v := .pointer (some ⟨W.heap.size, 0, none⟩)) (w1 := W.alloc (.cells v.cells ty)) ?_ (h _ _ (heap_alloc_new W _) rfl (by show (W.heap.push _).size = _; simp) ((Below.refl _ _).alloc (Nat.le_refl _) _))
  simp [execOp, ho, hx, Instr.box, newVar, newRow, newObj]
  rfl
end
theorem ret_cell2 {P : Program} {fn : Func} {R : Ending → World → Prop} {a : Act} {w : World} {t u : Tmp} {ty : TypeId} (h : fn.results = #[.cell t ty, .tmp u]) (hd : a.defers = []) (g : Nat) (hv : a.tmps.getD t undef = .pointer (some ⟨g, 0, none⟩)) (x : Value) (hx : a.tmps.getD u undef = x) (cells : Array Value) (t' : TypeId) (d : TypeDesc)
    (hg : w.heap[g]? = some (.cells cells t' (0, 0))) (hu : P.underlying ty = some d) (hdd : (match d with | .struct _ | .array _ _ => true | _ => false) = true) (hi : (P.info? ty).map (·.size) = some cells.size) (hR : R (.returned (.tuple #[.agg cells, x])) w) : bodyPost P fn R .ret a w := by
  refine bodyPost_ret (v := .tuple #[.agg cells, x]) ?_ hd hR
  rw [results_cell_tmp h, hv, hx]
  simp [asAddr, Result.andThen, run_loadVar_row w g t' ty cells (0, 0) d hg hu hdd hi]
theorem L_build {P : Program} {ops : Array Oper} {rest : List Oper} {o : Oper} {a : Act} {w : World} {Q : Exit → Act → World → Prop} (hg : o.guard = none) (t : TypeId) (parts : Array (Nat × Operand)) (ho : o.op = .build t parts) (cells : Array Value)
    (hf : P.built t (parts.map fun (i, x) => (i, a.eval x)).toList = some cells) (h : wpList P ops Q rest (a.put o.dst (.agg cells)) w) : wpList P ops Q (o :: rest) a w := by
  refine wpList_build hg t parts ho (by rw [hf]; rfl) ?_
  rw [hf]
  exact h
def KS : List Int := [1116352408, 1899447441, 3049323471, 3921009573, 961987163, 1508970993, 2453635748, 2870763221, 3624381080, 310598401, 607225278, 1426881987, 1925078388, 2162078206, 2614888103, 3248222580, 3835390401, 4022224774, 264347078, 604807628, 770255983, 1249150122, 1555081692, 1996064986, 2554220882, 2821834349, 2952996808, 3210313671, 3336571891, 3584528711, 113926993, 338241895, 666307205, 773529912, 1294757372, 1396182291, 1695183700, 1986661051, 2177026350, 2456956037, 2730485921, 2820302411, 3259730800, 3345764771, 3516065817, 3600352804, 4094571909, 275423344, 430227734, 506948616, 659060556, 883997877, 958139571, 1322822218, 1537002063, 1747873779, 1955562222, 2024104815, 2227730452, 2361852424, 2428436474, 2756734187, 3204031479, 3329325298]
def FS : List Int := [1779033703, 3144134277, 1013904242, 2773480762, 1359893119, 2600822924, 528734635, 1541459225]
set_option maxHeartbeats 8000000 in
set_option maxRecDepth 100000 in
theorem constants_calls (w : World) : Calls Try.prog 143 #[] w fun e w' => e = .returned (.agg (arr .u32 KS)) ∧ Below w.heap.size w w' := by
  go_enter Try.func143, Try.ntmps143
  go_wp2_with (first | ((with_reducible refine gate_dst (N := 0) rfl ?_); refine L_alloc rfl 224 rfl (.agg (arr .u32 (List.replicate 64 0))) 64 (by kernel_rfl) ?_; intro g0 w1 hb0 hg0 hs0 hl0; have HB0 := Aside0.mk hb0; clear hb0; have HG0 := Aside0.mk hg0; clear hg0; have HS0 := Aside0.mk hs0; clear hs0; have HL0 := Aside0.mk hl0; clear hl0) | ((with_reducible refine gate_dst (N := 1) rfl ?_); refine L_build rfl 224 _ rfl (arr .u32 KS) (by kernel_rfl) ?_) | (refine L_store rfl rfl 224 (.tmp 0) (.tmp 1) rfl g0 (arr .u32 KS) rfl rfl _ 224 HB0.out (by rfl) (by kernel_rfl) (arr_one _ _) ?_; intro w9 hb9 hU; have HB9 := Aside0.mk hb9; clear hb9; have HU := Aside0.mk hU; clear hU))
  exact ret_cell rfl rfl g0 rfl (arr .u32 KS) 224 _ HB9.out Try.underlying224 rfl (by kernel_rfl) ⟨rfl, HU.out.below HL0.out (Nat.le_of_eq HG0.out)⟩
set_option maxHeartbeats 8000000 in
set_option maxRecDepth 100000 in
theorem First_calls (w : World) : Calls Try.prog 136 #[] w fun e w' => e = .returned (.agg (arr .u32 FS)) ∧ Below w.heap.size w w' := by
  go_enter Try.func136, Try.ntmps136
  go_wp2_with (first | ((with_reducible refine gate_dst (N := 0) rfl ?_); refine L_alloc rfl 214 rfl (.agg (arr .u32 (List.replicate 8 0))) 8 (by kernel_rfl) ?_; intro g0 w1 hb0 hg0 hs0 hl0; have HB0 := Aside0.mk hb0; clear hb0; have HG0 := Aside0.mk hg0; clear hg0; have HS0 := Aside0.mk hs0; clear hs0; have HL0 := Aside0.mk hl0; clear hl0) | ((with_reducible refine gate_dst (N := 1) rfl ?_); refine L_build rfl 214 _ rfl (arr .u32 FS) (by kernel_rfl) ?_) | (refine L_store rfl rfl 214 (.tmp 0) (.tmp 1) rfl g0 (arr .u32 FS) rfl rfl _ 214 HB0.out (by rfl) (by kernel_rfl) (arr_one _ _) ?_; intro w9 hb9 hU; have HB9 := Aside0.mk hb9; clear hb9; have HU := Aside0.mk hU; clear hU))
  exact ret_cell rfl rfl g0 rfl (arr .u32 FS) 214 _ HB9.out Try.underlying214 rfl (by kernel_rfl) ⟨rfl, HU.out.below HL0.out (Nat.le_of_eq HG0.out)⟩
end Go.Proofs.Ytdbfclfglpbpmaa.Sha

namespace Go.Proofs.Ytdbfclfglpbpmaa.Sha
open Go.RowKit Go.Proofs.YtdbfclfglpbpmaaW.Hand Go.Proofs.YtdbfclfglpbpmaaW.PrintWords Go.Proofs.YtdbfclfglpbpmaaW.PrintLast Go.Proofs.YtdbfclfglpbpmaaW.PrintMore Go.Proofs.Ytdbfclfglpbpmaa.PF25F
set_option linter.unusedVariables false
set_option linter.unusedSimpArgs false

def rnds (ks ws v : List Int) : Nat → List Int
  | 0 => v
  | n + 1 => rnd (rnds ks ws v n) (rd ks n) (rd ws n)
theorem rnds_length (ks ws v : List Int) (n : Nat) : (rnds ks ws v n).length = v.length := by
  induction n with
  | zero => rfl
  | succ n ih => rw [rnds, rnd_length, ih]
def addW (h v : List Int) : List Int := (h.zip v).map fun p => (p.1 + p.2) % 4294967296
def comp (h ws : List Int) : List Int := addW h (rnds KS (sched ws 48) h 64)
theorem upto_setW (h v : List Int) (hl : h.length = v.length) (k : Nat) (hk : k < h.length) :
    (addW (h.take k) (v.take k) ++ h.drop k).set k ((rd h k + rd v k) % 4294967296) = addW (h.take (k + 1)) (v.take (k + 1)) ++ h.drop (k + 1) := by
  have h1 : (addW (h.take k) (v.take k)).length = k := by unfold addW; simp; omega
  rw [List.set_append_right _ _ (by omega), h1, Nat.sub_self, List.drop_eq_getElem_cons hk, List.set_cons_zero]
  have h2 : addW (h.take (k + 1)) (v.take (k + 1)) = addW (h.take k) (v.take k) ++ [(rd h k + rd v k) % 4294967296] := by
    have hk2 : k < v.length := by omega
    unfold addW
    rw [List.take_succ_eq_append_getElem hk, List.take_succ_eq_append_getElem hk2, List.zip_append (by simp; omega)]
    simp [rd, List.getD_eq_getElem?_getD, hk, hk2]
  rw [h2, List.append_assoc]
  rfl
set_option maxHeartbeats 8000000 in
set_option maxRecDepth 100000 in
theorem Rounds_calls (k : Nat) (h : List Int) (hh : h.length = 8) (A : Option Addr) (c : Nat) (b : List Int) (hb : b.length = 64) (ws : List Int) (hws : word_Words.f k b = some (ws, 0)) (hl16 : ws.length = 16) (w : World) (hC : Kd.C (Kd.int .u8) w A b.length b) (hcc : b.length ≤ c) :
    Calls Try.prog 137 #[.agg (arr .u32 h), .slice A b.length c] w fun e w' => e = .returned (.tuple #[.agg (arr .u32 (comp h ws)), .int .i64 0]) ∧ Below w.heap.size w w' := by
  have HH := Aside0.mk hh
  have HC := Aside0.mk hC
  have HCC := Aside0.mk hcc
  have HWS := Aside0.mk hws
  have HL16 := Aside0.mk hl16
  have hne : ((b.length : Int) == 64) = true := by simp; omega
  have hne2 : ((b.length : Int) != 64) = false := by simp; omega
  clear hh hC hcc hws hl16 hb
  go_enter Try.func137, Try.ntmps137
  go_wp2_with (first | ((with_reducible refine gate_dst (N := 2) rfl ?_); refine L_box rfl 214 (.tmp 0) rfl (.agg (arr .u32 h)) rfl ?_; intro g2 w1 hb2 hg2 hs2 hl2; have HB2 := Aside0.mk hb2; clear hb2; have HG2 := Aside0.mk hg2; clear hg2; have HS2 := Aside0.mk hs2; clear hs2; have HL2 := Aside0.mk hl2; clear hl2) | ((with_reducible refine gate_dst (N := 4) rfl ?_); refine L_alloc rfl 214 rfl (.agg (arr .u32 (List.replicate 8 0))) 8 (by kernel_rfl) ?_; intro g4 w2 hb4 hg4 hs4 hl4; have HB4 := Aside0.mk hb4; clear hb4; have HG4 := Aside0.mk hg4; clear hg4; have HS4 := Aside0.mk hs4; clear hs4; have HL4 := Aside0.mk hl4; clear hl4) | (go_at_call 141; refine (word_Words.calls k A c b ws 0 _ (Kd.C_below (Kd.C_below HC.out HL2.out) HL4.out) HCC.out HWS.out).mono ?_; rintro e w3 ⟨v0, rfl, hr3, hl3⟩; obtain ⟨A3, c3, rfl, hle3, hc3⟩ := Kd.R_reads hr3; clear hr3; have HL3 := Aside0.mk hl3; clear hl3; have HC3 := Aside0.mk hc3; clear hc3; have HLE3 := Aside0.mk hle3; clear hle3) | (go_at_call 142; refine (schedule_calls A3 c3 ws HL16.out _ HC3.out).mono ?_; rintro e w4 ⟨rfl, hl5⟩; have HL5 := Aside0.mk hl5; clear hl5) | (go_at_call 143; refine (constants_calls _).mono ?_; rintro e w5 ⟨rfl, hl6⟩; have HL6 := Aside0.mk hl6; clear hl6) | ((with_reducible refine gate_dst (N := 8) rfl ?_); refine L_alloc rfl 224 rfl (.agg (arr .u32 (List.replicate 64 0))) 64 (by kernel_rfl) ?_; intro g8 w6 hb8 hg8 hs8 hl8; have HB8 := Aside0.mk hb8; clear hb8; have HG8 := Aside0.mk hg8; clear hg8; have HS8 := Aside0.mk hs8; clear hs8; have HL8 := Aside0.mk hl8; clear hl8) | ((with_reducible refine gate_dst (N := 9) rfl ?_); refine L_alloc rfl 224 rfl (.agg (arr .u32 (List.replicate 64 0))) 64 (by kernel_rfl) ?_; intro g9 w7 hb9 hg9 hs9 hl9; have HB9 := Aside0.mk hb9; clear hb9; have HG9 := Aside0.mk hg9; clear hg9; have HS9 := Aside0.mk hs9; clear hs9; have HL9 := Aside0.mk hl9; clear hl9) | (refine L_store rfl rfl 224 (.tmp 8) (.tmp 23) (by rfl) g8 (arr .u32 (sched ws 48)) (by rfl) (by rfl) (arr .u32 (List.replicate 64 0)) 224 ((HL9.out.block g8 (by have := HG9.out; have := HS8.out; omega)).trans HB8.out) (by rw [arr_size, arr_size, sched_length, HL16.out]; rfl) (by rw [arr_size, sched_length, HL16.out]; kernel_rfl) (arr_one _ _) ?_; intro w8 hbw8 huw8; have HBW8 := Aside0.mk hbw8; clear hbw8; have HUW8 := Aside0.mk huw8; clear huw8) | (refine L_store rfl rfl 224 (.tmp 9) (.tmp 24) (by rfl) g9 (arr .u32 KS) (by rfl) (by rfl) (arr .u32 (List.replicate 64 0)) 224 ((HUW8.out.block g9 (by have := HG9.out; have := HS8.out; omega)).trans HB9.out) (by rw [arr_size, arr_size]; rfl) (by rw [arr_size]; kernel_rfl) (arr_one _ _) ?_; intro w9 hbw9 huw9; have HBW9 := Aside0.mk hbw9; clear hbw9; have HUW9 := Aside0.mk huw9; clear huw9) | ((with_reducible refine gate_dst (N := 25) rfl ?_); have hord : w.heap.size ≤ g2 ∧ g2 < g4 ∧ g4 < g8 ∧ g8 < g9 := (by have := HL3.out.size; have := HL5.out.size; have := HL6.out.size; have := HG2.out; have := HG4.out; have := HG8.out; have := HG9.out; have := HS2.out; have := HS4.out; have := HS8.out; omega); have hbw : Below w1.heap.size w1 w7 := below_step (below_step (below_step (below_step (below_step HL4.out HL3.out) HL5.out) HL6.out) HL8.out) HL9.out; have hbw2 : Below w2.heap.size w2 w7 := below_step (below_step (below_step (below_step HL3.out HL5.out) HL6.out) HL8.out) HL9.out; have hf : w9.heap[g2]? = some (.cells (arr .u32 h) 214 (0, 0)) ∧ w9.heap[g4]? = some (.cells (arr .u32 (List.replicate 8 0)) 214 (0, 0)) ∧ w9.heap[g8]? = some (.cells (arr .u32 (sched ws 48)) 224 (0, 0)) ∧ w9.heap[g9]? = some (.cells (arr .u32 KS) 224 (0, 0)) ∧ Below w.heap.size w w9 := ⟨(HUW9.out.block g2 (by omega)).trans ((HUW8.out.block g2 (by omega)).trans ((hbw.block g2 (by have := HS2.out; omega)).trans HB2.out)), (HUW9.out.block g4 (by omega)).trans ((HUW8.out.block g4 (by omega)).trans ((hbw2.block g4 (by have := HS4.out; omega)).trans HB4.out)), (HUW9.out.block g8 (by omega)).trans HBW8.out, HBW9.out, HUW9.out.below (HUW8.out.below (below_step HL2.out hbw) (by omega)) (by omega)⟩; have HF := Aside0.mk hf; have HORD := Aside0.mk hord; clear hf hord hbw hbw2 HL2 HL3 HL4 HL5 HL6 HL8 HL9 HG2 HG4 HG8 HG9 HS2 HS4 HS8 HS9 HB2 HB4 HB8 HB9 HBW8 HBW9 HUW8 HUW9 HC3 HLE3; refine L_load rfl 214 (.tmp 2) rfl g2 rfl 214 (arr .u32 h) _ HF.out.1 Try.underlying214 rfl (by rw [arr_size, HH.out]; kernel_rfl) ?_) | ((with_reducible refine gate_dst (N := 10) rfl ?_); refine L_alloc rfl 214 rfl (.agg (arr .u32 (List.replicate 8 0))) 8 (by kernel_rfl) ?_; intro g10 w10 hb10 hg10 hs10 hl10; have HB10 := Aside0.mk hb10; clear hb10; have HG10 := Aside0.mk hg10; clear hg10; have HS10 := Aside0.mk hs10; clear hs10; have HL10 := Aside0.mk hl10; clear hl10) | (refine L_store rfl rfl 214 (.tmp 10) (.tmp 25) (by rfl) g10 (arr .u32 h) (by rfl) (by rfl) (arr .u32 (List.replicate 8 0)) 214 (HB10.out) (by rw [arr_size, arr_size, HH.out]; rfl) (by rw [arr_size, HH.out]; kernel_rfl) (arr_one _ _) ?_; intro w11 hbw11 huw11; have HBW11 := Aside0.mk hbw11; clear hbw11; have HUW11 := Aside0.mk huw11; clear huw11))
  have hi : g9 < g10 ∧ Aside0 (w11.heap[g2]? = some (.cells (arr .u32 h) 214 (0, 0)) ∧ w11.heap[g4]? = some (.cells (arr .u32 (List.replicate 8 0)) 214 (0, 0)) ∧ w11.heap[g8]? = some (.cells (arr .u32 (sched ws 48)) 224 (0, 0)) ∧ w11.heap[g9]? = some (.cells (arr .u32 KS) 224 (0, 0)) ∧ w11.heap[g10]? = some (.cells (arr .u32 (rnds KS (sched ws 48) h 0)) 214 (0, 0)) ∧ Below w.heap.size w w11) := by
    obtain ⟨f2, f4, f8, f9, fb⟩ := HF.out
    have hord := HORD.out
    have h9 := blk_lt f9
    have := HG10.out
    have hb := HL10.out
    exact ⟨by omega, ⟨(HUW11.out.block g2 (by omega)).trans ((hb.block g2 (blk_lt f2)).trans f2), (HUW11.out.block g4 (by omega)).trans ((hb.block g4 (blk_lt f4)).trans f4), (HUW11.out.block g8 (by omega)).trans ((hb.block g8 (blk_lt f8)).trans f8), (HUW11.out.block g9 (by omega)).trans ((hb.block g9 h9).trans f9), HBW11.out, HUW11.out.below (below_step fb hb) (by omega)⟩⟩
  obtain ⟨h910, HI⟩ := hi
  have hord := HORD.out
  clear HF HL10 HG10 HS10 HB10 HBW11 HUW11
  go_loopw [26] (fun i wr => ∃ n : Nat, n ≤ 64 ∧ i = .int .i64 n ∧ Aside0 (wr.heap[g2]? = some (.cells (arr .u32 h) 214 (0, 0)) ∧ wr.heap[g4]? = some (.cells (arr .u32 (List.replicate 8 0)) 214 (0, 0)) ∧ wr.heap[g8]? = some (.cells (arr .u32 (sched ws 48)) 224 (0, 0)) ∧ wr.heap[g9]? = some (.cells (arr .u32 KS) 224 (0, 0)) ∧ wr.heap[g10]? = some (.cells (arr .u32 (rnds KS (sched ws 48) h n)) 214 (0, 0)) ∧ Below w.heap.size w wr)) (fun i _ => 64 - (intOf i).toNat)
  case atStart => exact ⟨0, by omega, rfl, HI⟩
  case round =>
    clear HI
    obtain ⟨n, hn, rfl, HR⟩ := hrel
    by_cases hlt : n < 64
    · go_wp2
      have hvl : (rnds KS (sched ws 48) h n).length = 8 := by rw [rnds_length, HH.out]
      refine region_tail 7 (by kernel_rfl) (by kernel_rfl) ?_
      intro W hW hD
      simp only [List.take_succ_cons, List.take_zero, List.drop_succ_cons, List.drop_zero]
      have hf : W.heap[g2]? = some (.cells (arr .u32 h) 214 (0, 0)) ∧ W.heap[g4]? = some (.cells (arr .u32 (List.replicate 8 0)) 214 (0, 0)) ∧ W.heap[g8]? = some (.cells (arr .u32 (sched ws 48)) 224 (0, 0)) ∧ W.heap[g9]? = some (.cells (arr .u32 KS) 224 (0, 0)) ∧ W.heap[g10]? = some (.cells (arr .u32 (rnds KS (sched ws 48) h n)) 214 (0, 0)) ∧ Below w.heap.size w W := by
        obtain ⟨f2, f4, f8, f9, f10, fb⟩ := HR.out
        rw [hW]
        exact ⟨f2, f4, f8, f9, f10, fb.trans (hD.below.mono (by have := fb.size; omega))⟩
      have hc9 : W.cell? ⟨g9, n, none⟩ = some (.int .u32 (rd KS (n : Int))) := by rw [blk_cell hf.2.2.2.1, arr_get _ _ _ (by show n < 64; omega)]
      have hc8 : W.cell? ⟨g8, n, none⟩ = some (.int .u32 (rd (sched ws 48) (n : Int))) := by rw [blk_cell hf.2.2.1, arr_get _ _ _ (by rw [sched_length, HL16.out]; omega)]
      have HF := Aside0.mk hf
      have HVL := Aside0.mk hvl
      clear hf hvl hW hD HR
      refine S_load rfl 214 (.tmp 10) rfl g10 rfl 214 (arr .u32 (rnds KS (sched ws 48) h n)) _ HF.out.2.2.2.2.1 Try.underlying214 rfl (by rw [arr_size, HVL.out]; kernel_rfl) ?_
      repeat still_step
      refine wpStill_nil ?_
      go_wp2_with (first | (go_at_call 144; refine (round_calls _ HVL.out _ _ _).mono ?_; rintro e W2 ⟨rfl, hb⟩; have HB := Aside0.mk hb; clear hb) | (refine L_store rfl rfl 214 (.tmp 10) (.tmp 36) (by rfl) g10 (arr .u32 (rnd (rnds KS (sched ws 48) h n) (rd KS (n : Int)) (rd (sched ws 48) (n : Int)))) (by rfl) (by rfl) (arr .u32 (rnds KS (sched ws 48) h n)) 214 ((HB.out.block g10 (blk_lt HF.out.2.2.2.2.1)).trans HF.out.2.2.2.2.1) (by rw [arr_size, arr_size, rnd_length]) (by rw [arr_size, rnd_length, HVL.out]; kernel_rfl) (arr_one _ _) ?_; intro w12 hbw12 huw12; have HBW12 := Aside0.mk hbw12; clear hbw12; have HUW12 := Aside0.mk huw12; clear huw12))
      go_roundw
      case rel =>
        refine ⟨n + 1, by omega, by go_num, ⟨?_⟩⟩
        obtain ⟨f2, f4, f8, f9, f10, fb⟩ := HF.out
        have hb := HB.out
        have hu := HUW12.out
        exact ⟨(hu.block g2 (by omega)).trans ((hb.block g2 (blk_lt f2)).trans f2), (hu.block g4 (by omega)).trans ((hb.block g4 (blk_lt f4)).trans f4), (hu.block g8 (by omega)).trans ((hb.block g8 (blk_lt f8)).trans f8), (hu.block g9 (by omega)).trans ((hb.block g9 (blk_lt f9)).trans f9), HBW12.out, hu.below (below_step fb hb) (by omega)⟩
      case measure => simp [intOf]; omega
    · obtain rfl : n = 64 := by omega
      obtain ⟨vs, hvs⟩ : ∃ vs, vs = rnds KS (sched ws 48) h 64 := ⟨_, rfl⟩
      have hv8 : vs.length = 8 := by rw [hvs, rnds_length, HH.out]
      have HG : Aside0 (wr.heap[g2]? = some (.cells (arr .u32 (addW (h.take 0) (vs.take 0) ++ h.drop 0)) 214 (0, 0)) ∧ wr.heap[g4]? = some (.cells (arr .u32 (List.replicate 8 0)) 214 (0, 0)) ∧ wr.heap[g10]? = some (.cells (arr .u32 vs) 214 (0, 0)) ∧ Below w.heap.size w wr) := by
        obtain ⟨f2, f4, f8, f9, f10, fb⟩ := HR.out
        rw [← hvs] at f10
        exact ⟨f2, f4, f10, fb⟩
      have HVS := Aside0.mk hvs
      have HV8 := Aside0.mk hv8
      clear HR hvs hv8
      go_wp2
      go_loopw [38] (fun i wr => ∃ n : Nat, n ≤ 8 ∧ i = .int .i64 n ∧ Aside0 (wr.heap[g2]? = some (.cells (arr .u32 (addW (h.take n) (vs.take n) ++ h.drop n)) 214 (0, 0)) ∧ wr.heap[g4]? = some (.cells (arr .u32 (List.replicate 8 0)) 214 (0, 0)) ∧ wr.heap[g10]? = some (.cells (arr .u32 vs) 214 (0, 0)) ∧ Below w.heap.size w wr)) (fun i _ => 8 - (intOf i).toNat)
      case atStart => exact ⟨0, by omega, rfl, HG⟩
      case round =>
        clear HG
        obtain ⟨n, hn, rfl, HR⟩ := hrel
        by_cases hlt2 : n < 8
        · have hll : (addW (h.take n) (vs.take n)).length = n := by have := HH.out; have := HV8.out; unfold addW; simp; omega
          have hc2 : wr.cell? ⟨g2, n, none⟩ = some (.int .u32 (rd h (n : Int))) := by
            have := HH.out
            rw [blk_cell HR.out.1, arr_get _ _ _ (by rw [List.length_append, hll, List.length_drop]; omega)]
            congr 2
            unfold rd
            simp only [Int.toNat_natCast, List.getD_eq_getElem?_getD]
            rw [List.getElem?_append_right (by omega), hll, Nat.sub_self, List.getElem?_drop, Nat.add_zero]
          have hf2 : wr.frozen? ⟨g2, n, none⟩ = false := blk_frozen HR.out.1 n
          have hc10 : wr.cell? ⟨g10, n, none⟩ = some (.int .u32 (rd vs (n : Int))) := by rw [blk_cell HR.out.2.2.1, arr_get _ _ _ (by rw [HV8.out]; omega)]
          obtain ⟨x, hx⟩ : ∃ x, x = rd h (n : Int) := ⟨_, rfl⟩
          obtain ⟨y, hy⟩ : ∃ y, y = rd vs (n : Int) := ⟨_, rfl⟩
          rw [← hx] at hc2
          rw [← hy] at hc10
          have HX := Aside0.mk (And.intro hx hy)
          clear hx hy hll
          go_wp2
          go_region
          go_wp2
          go_roundw
          case rel =>
            obtain ⟨f2, f4, f10, fb⟩ := HR.out
            obtain ⟨hx, hy⟩ := HX.out
            refine ⟨n + 1, by omega, by go_num, ⟨?_, ?_, ?_, ?_⟩⟩
            · refine (blk_set (w := wr.drewN _) f2 n _).trans ?_
              rw [arr_set, hx, hy, upto_setW h vs (by rw [HH.out, HV8.out]) n (by rw [HH.out]; omega)]
            · exact (blk_far (w := wr.drewN _) f4 (p := ⟨g2, n, none⟩) (by show g4 ≠ g2; omega) _)
            · exact (blk_far (w := wr.drewN _) f10 (p := ⟨g2, n, none⟩) (by show g10 ≠ g2; omega) _)
            · exact (pw_below_drewN fb _).setCell (by show w.heap.size ≤ g2; omega) _
          case measure => simp [intOf]; omega
        · obtain rfl : n = 8 := by omega
          have HQ : Aside0 (wr.heap[g2]? = some (.cells (arr .u32 (comp h ws)) 214 (0, 0)) ∧ (comp h ws).length = 8) := by
            have e : addW (h.take 8) (vs.take 8) ++ h.drop 8 = comp h ws := by
              rw [List.take_of_length_le (by rw [HH.out]; omega), List.take_of_length_le (by rw [HV8.out]; omega), List.drop_of_length_le (by rw [HH.out]; omega), List.append_nil, HVS.out]
              rfl
            have := HR.out.1
            rw [e] at this
            exact ⟨this, by rw [comp, addW, List.length_map, List.length_zip, rnds_length, HH.out]; rfl⟩
          go_wp2_with (first | ((with_reducible refine gate_dst (N := 50) rfl ?_); refine L_load rfl 214 (.tmp 2) rfl g2 rfl 214 (arr .u32 (comp h ws)) _ (HQ.out.1) Try.underlying214 rfl (by rw [arr_size, HQ.out.2]; kernel_rfl) ?_) | (refine L_store rfl rfl 214 (.tmp 4) (.tmp 50) (by rfl) g4 (arr .u32 (comp h ws)) (by rfl) (by rfl) (arr .u32 (List.replicate 8 0)) 214 (HR.out.2.1) (by rw [arr_size, arr_size, HQ.out.2]; rfl) (by rw [arr_size, HQ.out.2]; kernel_rfl) (arr_one _ _) ?_; intro w13 hbw13 huw13; have HBW13 := Aside0.mk hbw13; clear hbw13; have HUW13 := Aside0.mk huw13; clear huw13))
          exact ret_cell2 rfl rfl g4 rfl _ rfl (arr .u32 (comp h ws)) 214 _ HBW13.out Try.underlying214 rfl (by rw [arr_size, HQ.out.2]; kernel_rfl) ⟨rfl, HUW13.out.below HR.out.2.2.2 (by omega)⟩
end Go.Proofs.Ytdbfclfglpbpmaa.Sha

namespace Go.Proofs.Ytdbfclfglpbpmaa.Sha
open Go.RowKit Go.Proofs.YtdbfclfglpbpmaaW.Hand Go.Proofs.YtdbfclfglpbpmaaW.PrintWords Go.Proofs.YtdbfclfglpbpmaaW.PrintLast Go.Proofs.YtdbfclfglpbpmaaW.PrintMore Go.Proofs.Ytdbfclfglpbpmaa.PF25F Go.Proofs.Ytdbfclfglpbpmaa.Base Go.Proofs.Ytdbfclfglpbpmaa.LF25F
set_option linter.unusedVariables false
set_option linter.unusedSimpArgs false

/-- The cells of a Hash. -/
def hcells (h : List Int) (v : Value) (n : Int) : Array Value := (h.map (Value.int .u32) ++ [v, .int .i64 n]).toArray
theorem hcells_size (h : List Int) (v : Value) (n : Int) : (hcells h v n).size = h.length + 2 := by simp [hcells]
theorem eight {h : List Int} (hh : h.length = 8) : ∃ a0 a1 a2 a3 a4 a5 a6 a7, h = [a0, a1, a2, a3, a4, a5, a6, a7] := by
  match h, hh with
  | [a0, a1, a2, a3, a4, a5, a6, a7], _ => exact ⟨_, _, _, _, _, _, _, _, rfl⟩
/-- Bytes that wait in a row of the call's own, which may begin inside its block. -/
def QB (w : World) (base : Nat) (v : Value) (xs : List Int) : Prop := QRow w base 5 1 v xs.length (nums .u8 xs)
theorem QB.nil (w : World) (base : Nat) : QB w base (.slice none 0 0) [] := q_of_own (own_nil w base 5 1)
theorem QB.lt {w : World} {base : Nat} {v : Value} {xs : List Int} (h : QB w base v xs) : ∀ k, v.ownBlock = some k → k < w.heap.size := q_lt h
theorem QB.base {w : World} {base : Nat} {v : Value} {xs : List Int} (h : QB w base v xs) : ∀ k, v.ownBlock = some k → base ≤ k := fun k hk => (q_typed h k hk).1
theorem QB.kept {w W : World} {S : Nat → Prop} {base : Nat} {v : Value} {xs : List Int} (h : QB w base v xs) (hk : Kept w W S) (hS : ∀ k, v.ownBlock = some k → ¬ S k) : QB W base v xs := q_move h (fun k hv => hk.2 k (q_lt h k hv) (hS k hv))
theorem QB.below {w W : World} {base : Nat} {v : Value} {xs : List Int} (h : QB w base v xs) (hb : Below w.heap.size w W) : QB W base v xs := q_move h (fun k hv => hb.block k (q_lt h k hv))
theorem QB.slice {w : World} {base : Nat} {v : Value} {xs : List Int} (h : QB w base v xs) : ∃ A c, v = .slice A xs.length c ∧ xs.length ≤ c := q_slice h
theorem QB.ne {w : World} {base g t : Nat} {v : Value} {xs : List Int} {cur : Array Value} (h : QB w base v xs) (hg : w.heap[g]? = some (.cells cur t (0, 0))) (ht : t ≠ 5) : v.ownBlock ≠ some g := fun e => by
  obtain ⟨_, cells, hc⟩ := q_typed h g e
  rw [hg] at hc
  injection hc with hc
  injection hc with _ hc
  exact ht hc
theorem QB.C {w : World} {base : Nat} {A : Option Addr} {c : Nat} {xs : List Int} (h : QB w base (.slice A xs.length c) xs) : Kd.C (Kd.int .u8) w A xs.length xs := by
  refine ⟨rfl, q_max h, fun hp => ?_⟩
  obtain ⟨ad, rfl, hc⟩ := q_cells h hp
  refine ⟨ad, rfl, fun j p hj => ⟨[.int .u8 p], rfl, rfl, fun i u hu => ?_⟩⟩
  have hi : i = 0 := by
    have := (List.getElem?_eq_some_iff.1 hu).1
    simp at this
    omega
  subst hi
  have e : Value.int .u8 p = u := by simpa using hu
  subst e
  rw [show (Kd.int .u8).sz = 1 from rfl, Nat.mul_one, Nat.add_zero]
  exact hc j _ (by unfold nums; rw [List.getElem?_map, hj]; rfl)
theorem QB.take {w : World} {base m : Nat} {A : Option Addr} {c : Nat} {xs : List Int} (h : QB w base (.slice A xs.length c) xs) (hm : m ≤ xs.length) : QB w base (.slice A m c) (xs.take m) := by
  have := q_take h hm
  unfold QB
  rw [List.length_take, Nat.min_eq_left hm]
  unfold nums at this ⊢
  rwa [Nat.mul_one, ← List.map_take] at this
theorem QB.drop {w : World} {base m : Nat} {A : Option Addr} {c : Nat} {xs : List Int} (h : QB w base (.slice A xs.length c) xs) (hm : m ≤ xs.length) : QB w base (.slice (if c = m then A else A.map (·.add m)) (xs.length - m) (c - m)) (xs.drop m) := by
  have := q_drop h hm
  unfold QB
  rw [List.length_drop]
  unfold nums at this ⊢
  rwa [Nat.mul_one, ← List.map_drop] at this
theorem C_cells0 {k : IntKind} {w : World} {A : Option Addr} {xs : List Int} (h : Kd.C (Kd.int k) w A xs.length xs) (hp : 0 < xs.length) : ∃ ad, A = some ad ∧ ∀ (j : Nat) (v : Value), (nums k xs)[j]? = some v → w.cell? (ad.add j) = some v := C_cells h hp
/-- append(rest, b...): b whatever reads as bytes. -/
theorem QB_run {P : Program} (w : World) (base : Nat) (t ty : TypeId) (ht : P.underlying t = some (.slice 5)) (hinfo : (P.info? 5).map (fun i => (i.zero, i.size, i.bytes)) = some (some (.int .u8 0), 1, 1))
    (v : Value) (xs ys : List Int) (A : Option Addr) (c : Nat) (h : QB w base v xs) (hC : Kd.C (Kd.int .u8) w A ys.length ys) (hl : xs.length + ys.length ≤ 140737488355328) (hbase : base ≤ w.heap.size) :
    ∃ v' w', (Builtin.append_ #[t, t] ty #[v, .slice A ys.length c]).run P w = .ok v' w' ∧ QB w' base v' (xs ++ ys) ∧ w.grownBy w' v.ownBlock ∧ (v'.ownBlock = v.ownBlock ∨ ∃ b, v'.ownBlock = some b ∧ w.heap.size ≤ b) := by
  obtain ⟨i0, hi, hzz⟩ := Option.map_eq_some_iff.1 hinfo
  simp only [Prod.mk.injEq] at hzz
  obtain ⟨hz0, hz1, hz2⟩ := hzz
  rcases Nat.eq_zero_or_pos ys.length with h0 | hp
  · have he : ys = [] := List.eq_nil_of_length_eq_zero h0
    subst he
    obtain ⟨A1, c1, rfl, hle⟩ := h.slice
    refine ⟨_, w, ?_, by simpa using h, World.grownBy.refl w _, .inl rfl⟩
    rcases A with _ | ad
    · rcases A1 with _ | a1
      · simp [Builtin.append_, run_underlying ht, sizeOf, typeInfo, hi, Builtin.lenOf, Builtin.firstCells, hle]
      · simp [Builtin.append_, run_underlying ht, sizeOf, typeInfo, hi, Builtin.lenOf, Builtin.firstCells, hle, storeCells]
    · rcases A1 with _ | a1
      · simp [Builtin.append_, run_underlying ht, sizeOf, typeInfo, hi, Builtin.lenOf, Builtin.firstCells, hle, loadCells, loadCellsFrom]
      · simp [Builtin.append_, run_underlying ht, sizeOf, typeInfo, hi, Builtin.lenOf, Builtin.firstCells, hle, storeCells, loadCells, loadCellsFrom]
  · obtain ⟨ad, rfl, hc⟩ := C_cells0 hC hp
    obtain ⟨v1, w1, hr, hq, hg, hat⟩ := q_append (P := P) w base t ty 5 i0 (.int .u8 0) 1 1 ht hi hz0 hz1 hz2 rfl (by decide) v xs.length (nums .u8 xs) h ad ys.length c (nums .u8 ys) (by rw [nums_length, Nat.mul_one]) hc (by intro u hu; simp [nums] at hu; obtain ⟨x, _, rfl⟩ := hu; rfl) hp (by simp only [maxLen]; omega) (by omega) hbase
    refine ⟨v1, w1, hr, ?_, hg, hat⟩
    unfold QB
    rw [List.length_append, nums_append]
    exact hq
end Go.Proofs.Ytdbfclfglpbpmaa.Sha

namespace Go.Proofs.Ytdbfclfglpbpmaa.Sha
open Go.RowKit Go.Proofs.YtdbfclfglpbpmaaW.Hand Go.Proofs.YtdbfclfglpbpmaaW.PrintWords Go.Proofs.YtdbfclfglpbpmaaW.PrintLast Go.Proofs.YtdbfclfglpbpmaaW.PrintMore Go.Proofs.Ytdbfclfglpbpmaa.PF25F Go.Proofs.Ytdbfclfglpbpmaa.Base Go.Proofs.Ytdbfclfglpbpmaa.LF25F
set_option linter.unusedVariables false
set_option linter.unusedSimpArgs false
section
variable {P : Program} {ops : Array Oper} {rest : List Oper} {o : Oper} {a : Act} {W : World} {Q : Exit → Act → World → Prop}
/-- A store of one or more cells at place i of a block that is known whole. -/
theorem L_storeo (hgd : o.guard = none) (hd : o.dst = none) (ty : TypeId) (x y : Operand) (ho : o.op = .store ty x y) (g i : Nat) (hx : a.eval x = .pointer (some ⟨g, i, none⟩)) (u : Value) (hy : a.eval y = u)
    (cs : Array Value) (hcs : u.cells = cs) (hi : (P.info? ty).map (·.size) = some cs.size) (cur : Array Value) (t : TypeId) (hg : W.heap[g]? = some (.cells cur t (0, 0))) (hfit : i + cs.size ≤ cur.size) (h1 : cs.all (·.oneCell') = true)
    (new : Array Value) (hnew : (cur.toList.take i ++ cs.toList ++ cur.toList.drop (i + cs.size)).toArray = new)
    (h : ∀ w', w'.heap[g]? = some (.cells new t (0, 0)) → Upd W w' g → wpList P ops Q rest a w') : wpList P ops Q (o :: rest) a W := by
  subst hcs
  have hst := run_storeCells_at P g i t u.cells.toList 0 cur W hg (by simpa using hfit) (fun v hv => (Array.all_eq_true_iff_forall_mem.1 h1) v (by simpa using hv))
  simp only [Nat.add_zero, Array.length_toList, hnew] at hst
  refine wpList_plain hgd fun K hK => ?_
  unfold Oper.wp execOp
  cases hq : P.info? ty with
  | none => simp [hq] at hi
  | some ii =>
    have hs : u.cells.size = ii.size := by simp [hq] at hi; omega
    have hrun : (Instr.storeAt ty (.pointer (some ⟨g, i, none⟩)) u).run P W = .ok () (W.setRow g new) := by
      simp [Instr.storeAt, Instr.sureAddr, storeVar, sizeOf, typeInfo, hq, hs, hst]
    simp only [ho, hx, hy, Sem.run_bind, hrun, Result.andThen_ok, Sem.run_pure]
    refine hK _ _ ?_
    rw [hd]
    exact h _ (setRow_heap W g cur new t (0, 0) hg) ⟨rfl, rfl, rfl, setRow_size W g new, fun k hk => setRow_other W g k new hk⟩
theorem L_append (hgd : o.guard = none) (s x : Operand) (t : TypeId) (ho : o.op = .call { callee := .builtin .append, args := #[s, x], argTypes := #[t, t] }) (ht : P.underlying t = some (.slice 5)) (hinfo : (P.info? 5).map (fun i => (i.zero, i.size, i.bytes)) = some (some (.int .u8 0), 1, 1))
    (base : Nat) (v : Value) (xs ys : List Int) (A : Option Addr) (c : Nat) (hs : a.eval s = v) (hx : a.eval x = .slice A ys.length c) (hQ : QB W base v xs) (hC : Kd.C (Kd.int .u8) W A ys.length ys) (hl : xs.length + ys.length ≤ 140737488355328) (hbase : base ≤ W.heap.size)
    (h : ∀ v' w', QB w' base v' (xs ++ ys) → W.grownBy w' v.ownBlock → (v'.ownBlock = v.ownBlock ∨ ∃ b, v'.ownBlock = some b ∧ W.heap.size ≤ b) → wpList P ops Q rest (a.put o.dst v') w') : wpList P ops Q (o :: rest) a W := by
  obtain ⟨v', w', hr, h1, h2, h3⟩ := QB_run W base t o.type ht hinfo v xs ys A c hQ hC hl hbase
  refine wpList_plain hgd fun K hK => ?_
  unfold Oper.wp execOp
  simp only [ho, resolve, invoke, builtin, Sem.run_bind, Sem.run_pure, Result.andThen_ok, List.map_toArray, List.map_cons, List.map_nil, hs, hx, hr]
  exact hK _ _ (h v' w' h1 h2 h3)
end
theorem Upd.kept {w w' : World} {g : Nat} (h : Upd w w' g) {S : Nat → Prop} (hg : S g) : Kept w w' S := ⟨by rw [h.size]; exact Nat.le_refl _, fun k _ hn => h.block k (fun e => hn (e ▸ hg))⟩
theorem grown_kept {w w' : World} {row : Option Nat} (h : w.grownBy w' row) : Kept w w' (fun k => row = some k) := ⟨h.size, fun k hk hn => h.block k hk (fun e => hn e.symm)⟩

/-- What a row of bytes is after its whole blocks: the words, and the bytes that are left. -/
def cmpB (h b : List Int) : List Int := comp h (wordsL b)
def eat (h l : List Int) : Nat → List Int
  | 0 => h
  | i + 1 => cmpB (eat h l i) ((l.drop (64 * i)).take 64)
theorem comp_length (h ws : List Int) : (comp h ws).length = h.length := by
  unfold comp addW
  rw [List.length_map, List.length_zip, rnds_length, Nat.min_self]
theorem eat_length (h l : List Int) (i : Nat) : (eat h l i).length = h.length := by
  induction i with
  | zero => rfl
  | succ i ih => rw [eat, cmpB, comp_length, ih]
theorem Words64 (b : List Int) (hb : Bytes b) (h64 : b.length = 64) : (∃ k, word_Words.f k b = some (wordsL b, 0)) ∧ (wordsL b).length = 16 := by
  refine ⟨?_, words_len 16 (by omega)⟩
  have := (Words_ev b hb (by omega)).rounds
  rwa [wordsSpec, if_pos (by omega)] at this
theorem RoundsB_calls (h : List Int) (hh : h.length = 8) (A : Option Addr) (c : Nat) (b : List Int) (hb : Bytes b) (h64 : b.length = 64) (w : World) (hC : Kd.C (Kd.int .u8) w A b.length b) (hcc : b.length ≤ c) :
    Calls Try.prog 137 #[.agg (arr .u32 h), .slice A b.length c] w fun e w' => e = .returned (.tuple #[.agg (arr .u32 (cmpB h b)), .int .i64 0]) ∧ Below w.heap.size w w' := by
  obtain ⟨⟨k, hk⟩, h16⟩ := Words64 b hb h64
  exact Rounds_calls k h hh A c b h64 (wordsL b) hk h16 w hC hcc
end Go.Proofs.Ytdbfclfglpbpmaa.Sha

namespace Go.Proofs.Ytdbfclfglpbpmaa.Sha
open Go.RowKit Go.Proofs.YtdbfclfglpbpmaaW.Hand Go.Proofs.YtdbfclfglpbpmaaW.PrintWords Go.Proofs.YtdbfclfglpbpmaaW.PrintLast Go.Proofs.YtdbfclfglpbpmaaW.PrintMore Go.Proofs.Ytdbfclfglpbpmaa.PF25F Go.Proofs.Ytdbfclfglpbpmaa.Base Go.Proofs.Ytdbfclfglpbpmaa.LF25F
set_option linter.unusedVariables false
set_option linter.unusedSimpArgs false

theorem one1 {u : Value} (hu : u.oneCell' = true) : (#[u] : Array Value).all (·.oneCell') = true := by simp [hu]
theorem QB.one {w : World} {base : Nat} {v : Value} {xs : List Int} (h : QB w base v xs) : v.oneCell' = true := by
  obtain ⟨A, c, rfl, _⟩ := h.slice
  rfl
theorem add_block (a : Addr) (n : Nat) : (a.add n).block = a.block := by unfold Addr.add; split <;> rfl
theorem Upd.refl (w : World) (g : Nat) : Upd w w g := ⟨rfl, rfl, rfl, rfl, fun _ _ => rfl⟩
theorem Upd.setCell {w w' : World} {g : Nat} (h : Upd w w' g) (i : Nat) (u : Value) : Upd w (w'.setCell ⟨g, i, none⟩ u) g :=
  ⟨h.os, h.tape, h.output, by rw [← h.size]; simp [World.setCell], fun k hk => (Below.heap_setCell w' ⟨g, i, none⟩ u k hk).trans (h.block k hk)⟩
theorem own_slice_block (A : Option Addr) (n c : Nat) : (Value.slice A n c).ownBlock = A.map (·.block) := by cases A <;> rfl
theorem hcells_set (h : List Int) (v : Value) (n : Int) (i : Nat) (hi : i < h.length) (y : Int) : (hcells h v n).setIfInBounds i (.int .u32 y) = hcells (h.set i y) v n := by
  unfold hcells
  simp [List.set_append, hi, List.map_set]
theorem hcells_setv (h : List Int) (v v' : Value) (n : Int) : (hcells h v n).setIfInBounds h.length v' = hcells h v' n := by
  unfold hcells
  simp
theorem hset {w : World} {g : Nat} {h : List Int} {v : Value} {n : Int} (hb : w.heap[g]? = some (.cells (hcells h v n) 217 (0, 0))) (i : Nat) (hi : i < h.length) (y : Int) : (w.setCell ⟨g, i, none⟩ (.int .u32 y)).heap[g]? = some (.cells (hcells (h.set i y) v n) 217 (0, 0)) := by rw [← hcells_set h v n i hi y]; exact blk_set hb i _
theorem hsetv {w : World} {g : Nat} {h : List Int} {v : Value} {n : Int} (hb : w.heap[g]? = some (.cells (hcells h v n) 217 (0, 0))) (v' : Value) : (w.setCell ⟨g, h.length, none⟩ v').heap[g]? = some (.cells (hcells h v' n) 217 (0, 0)) := by rw [← hcells_setv h v v' n]; exact blk_set hb _ _
theorem hset9 {w : World} {g : Nat} {x0 x1 x2 x3 x4 x5 x6 x7 y0 y1 y2 y3 y4 y5 y6 y7 n : Int} {v : Value} (hb : w.heap[g]? = some (.cells (hcells [x0, x1, x2, x3, x4, x5, x6, x7] v n) 217 (0, 0))) (v' : Value) : (((((((((w.setCell ⟨g, 0, none⟩ (.int .u32 y0)).setCell ⟨g, 1, none⟩ (.int .u32 y1)).setCell ⟨g, 2, none⟩ (.int .u32 y2)).setCell ⟨g, 3, none⟩ (.int .u32 y3)).setCell ⟨g, 4, none⟩ (.int .u32 y4)).setCell ⟨g, 5, none⟩ (.int .u32 y5)).setCell ⟨g, 6, none⟩ (.int .u32 y6)).setCell ⟨g, 7, none⟩ (.int .u32 y7)).setCell ⟨g, 8, none⟩ v').heap[g]? = some (.cells (hcells [y0, y1, y2, y3, y4, y5, y6, y7] v' n) 217 (0, 0)) := by
  have h0 := hset hb 0 (by simp) y0
  have h1 := hset h0 1 (by simp) y1
  have h2 := hset h1 2 (by simp) y2
  have h3 := hset h2 3 (by simp) y3
  have h4 := hset h3 4 (by simp) y4
  have h5 := hset h4 5 (by simp) y5
  have h6 := hset h5 6 (by simp) y6
  have h7 := hset h6 7 (by simp) y7
  exact hsetv h7 v'
theorem keepF {w w' : World} {g : Nat} {x0 x1 x2 x3 x4 x5 x6 x7 n : Int} {v : Value} (hb : w.heap[g]? = some (.cells (hcells [x0, x1, x2, x3, x4, x5, x6, x7] v n) 217 (0, 0))) (hB : Below w.heap.size w w') : w'.frozen? ⟨g, 8, none⟩ = false := blk_frozen ((hB.block g (blk_lt hb)).trans hb) 8
theorem keepS {w w' : World} {g : Nat} {x0 x1 x2 x3 x4 x5 x6 x7 n : Int} {v : Value} (hb : w.heap[g]? = some (.cells (hcells [x0, x1, x2, x3, x4, x5, x6, x7] v n) 217 (0, 0))) (hB : Below w.heap.size w w') : w'.cell? ⟨g, 0, none⟩ = some (.int .u32 x0) ∧ w'.cell? ⟨g, 1, none⟩ = some (.int .u32 x1) ∧ w'.cell? ⟨g, 2, none⟩ = some (.int .u32 x2) ∧ w'.cell? ⟨g, 3, none⟩ = some (.int .u32 x3) ∧ w'.cell? ⟨g, 4, none⟩ = some (.int .u32 x4) ∧ w'.cell? ⟨g, 5, none⟩ = some (.int .u32 x5) ∧ w'.cell? ⟨g, 6, none⟩ = some (.int .u32 x6) ∧ w'.cell? ⟨g, 7, none⟩ = some (.int .u32 x7) ∧ w'.cell? ⟨g, 8, none⟩ = some v ∧ w'.frozen? ⟨g, 0, none⟩ = false ∧ w'.frozen? ⟨g, 1, none⟩ = false ∧ w'.frozen? ⟨g, 2, none⟩ = false ∧ w'.frozen? ⟨g, 3, none⟩ = false ∧ w'.frozen? ⟨g, 4, none⟩ = false ∧ w'.frozen? ⟨g, 5, none⟩ = false ∧ w'.frozen? ⟨g, 6, none⟩ = false ∧ w'.frozen? ⟨g, 7, none⟩ = false := by
  have h := (hB.block g (blk_lt hb)).trans hb
  exact ⟨(blk_cell h 0).trans rfl, (blk_cell h 1).trans rfl, (blk_cell h 2).trans rfl, (blk_cell h 3).trans rfl, (blk_cell h 4).trans rfl, (blk_cell h 5).trans rfl, (blk_cell h 6).trans rfl, (blk_cell h 7).trans rfl, (blk_cell h 8).trans rfl, blk_frozen h 0, blk_frozen h 1, blk_frozen h 2, blk_frozen h 3, blk_frozen h 4, blk_frozen h 5, blk_frozen h 6, blk_frozen h 7⟩
/-- Bytes that are read lie in no Hash. -/
theorem C_upd {w w' : World} {g t : Nat} {h : List Int} {v : Value} {n : Int} {A : Option Addr} {xs : List Int} (hC : Kd.C (Kd.int .u8) w A xs.length xs) (hU : Upd w w' g) (hg : w.heap[g]? = some (.cells (hcells h v n) t (0, 0))) (hv : ∃ A' m c', v = .slice A' m c') : Kd.C (Kd.int .u8) w' A xs.length xs := by
  obtain ⟨h1, h2, h3⟩ := hC
  refine ⟨h1, h2, fun hp => ?_⟩
  obtain ⟨ad, e, hc⟩ := h3 hp
  refine ⟨ad, e, fun j p hj => ?_⟩
  obtain ⟨cs, e1, e2, e3⟩ := hc j p hj
  refine ⟨cs, e1, e2, fun i u hu => ?_⟩
  have e4 := e3 i u hu
  have hne : (ad.add (j * (Kd.int .u8).sz + i)).block ≠ g := by
    intro hb
    have e5 : cs = [.int .u8 p] := e2
    subst e5
    have hi : i = 0 := by
      have := (List.getElem?_eq_some_iff.1 hu).1
      simp at this
      omega
    subst hi
    have hu' : Value.int .u8 p = u := by simpa using hu
    subst hu'
    unfold World.cell? at e4
    rw [hb, hg] at e4
    simp only at e4
    split at e4
    · cases e4
    · unfold hcells at e4
      rw [List.getElem?_toArray] at e4
      have hm := List.mem_of_getElem? e4
      obtain ⟨A', m, c', rfl⟩ := hv
      simp at hm
  unfold World.cell? at e4 ⊢
  rw [hU.block _ hne]
  exact e4
set_option maxHeartbeats 8000000 in
set_option maxRecDepth 100000 in
theorem Write_calls (g : Nat) (h : List Int) (hh : h.length = 8) (v : Value) (n : Int) (rest b : List Int) (A : Option Addr) (c base : Nat) (w : World) (hg : w.heap[g]? = some (.cells (hcells h v n) 217 (0, 0))) (hbg : base ≤ g) (hbase : base ≤ w.heap.size) (hQ : QB w base v rest) (hBr : Bytes rest) (hC : Kd.C (Kd.int .u8) w A b.length b) (hcc : b.length ≤ c) (hBb : Bytes b)
    (hl : rest.length + b.length ≤ 1000000000000) (hn0 : 0 ≤ n) (hn1 : n ≤ 1000000000000) :
    Calls Try.prog 125 #[.pointer (some ⟨g, 0, none⟩), .slice A b.length c] w fun e w' => ∃ v', e = .returned (.tuple #[]) ∧ w'.heap[g]? = some (.cells (hcells (eat h (rest ++ b) ((rest ++ b).length / 64)) v' (n + b.length)) 217 (0, 0)) ∧ QB w' base v' ((rest ++ b).drop (64 * ((rest ++ b).length / 64))) ∧ Below base w w' ∧ Kept w w' (fun k => k = g ∨ v.ownBlock = some k) ∧ (v'.ownBlock = v.ownBlock ∨ ∃ k, v'.ownBlock = some k ∧ w.heap.size ≤ k) := by
  obtain ⟨a0, a1, a2, a3, a4, a5, a6, a7, rfl⟩ := eight hh
  obtain ⟨Av, cv, rfl, hcv⟩ := hQ.slice
  have hc8 : w.cell? ⟨g, 8, none⟩ = some (.slice Av rest.length cv) := (blk_cell hg 8).trans rfl
  have hc9 : w.cell? ⟨g, 9, none⟩ = some (.int .i64 n) := (blk_cell hg 9).trans rfl
  have HG := Aside0.mk hg
  have HQ := Aside0.mk hQ
  have HC := Aside0.mk hC
  have HBR := Aside0.mk hBr
  have HBB := Aside0.mk hBb
  have hne : Value.ownBlock (.slice Av rest.length cv) ≠ some g := hQ.ne hg (by decide)
  have HNE := Aside0.mk hne
  have HVS : Aside0 (∃ A' m c', Value.slice Av rest.length cv = .slice A' m c') := ⟨⟨_, _, _, rfl⟩⟩
  clear hg hQ hC hBr hBb hh hne
  obtain ⟨L, hL⟩ : ∃ L, L = rest ++ b := ⟨_, rfl⟩
  have hLl : L.length ≤ 1000000000000 := by rw [hL, List.length_append]; exact hl
  have hBL : Bytes L := by rw [hL]; exact HBR.out.append HBB.out
  have HBL := Aside0.mk hBL
  have HL := Aside0.mk hL
  rw [← hL]
  clear hL hBL
  go_enter Try.func125, Try.ntmps125
  go_wp2_with (first | ((with_reducible refine gate_store (t := 3) (p := 12) rfl ?_); refine L_storeo rfl rfl 3 (.tmp 12) (.tmp 10) (by rfl) g 9 (by rfl) (.int .i64 (n + (b.length : Int))) (by rfl) (#[.int .i64 (n + (b.length : Int))]) rfl (by kernel_rfl) (hcells [a0, a1, a2, a3, a4, a5, a6, a7] (.slice Av rest.length cv) n) 217 (HG.out) (by (rw [hcells_size]; exact (by decide : 9 + 1 ≤ 8 + 2))) (one1 rfl) (hcells [a0, a1, a2, a3, a4, a5, a6, a7] (.slice Av rest.length cv) (n + (b.length : Int))) (by rfl) ?_; intro w1 hbw1 huw1; have HBW1 := Aside0.mk hbw1; clear hbw1; have HUW1 := Aside0.mk huw1; clear huw1; have hd1 : w1.cell? ⟨g, 8, none⟩ = some (.slice Av rest.length cv) := (blk_cell HBW1.out 8).trans rfl) | ((with_reducible refine gate_builtin (b := .append) (xs := #[.tmp 17, .tmp 18]) rfl ?_); refine L_append rfl (.tmp 17) (.tmp 18) 22 rfl Try.underlying22 info5 base (.slice Av rest.length cv) rest b A c rfl rfl (HQ.out.kept (HUW1.out.kept (S := fun k => k = g) rfl) (fun k hk hS => HNE.out (hS ▸ hk))) (C_upd HC.out HUW1.out HG.out HVS.out) (by omega) (by rw [HUW1.out.size]; exact hbase) ?_; intro v1 w2 hq2 hg2 hat2; rw [← HL.out] at hq2; obtain ⟨A1, c1, hv1, hle1⟩ := hq2.slice; subst hv1; have HQ2 := Aside0.mk hq2; clear hq2; have HG2 := Aside0.mk hg2; clear hg2; have HAT2 := Aside0.mk hat2; clear hat2) | ((with_reducible refine gate_store (t := 22) (p := 21) rfl ?_); refine L_storeo rfl rfl 22 (.tmp 21) (.tmp 19) (by rfl) g 8 (by rfl) ((.slice A1 L.length c1)) (by rfl) (#[.slice A1 L.length c1]) rfl (by kernel_rfl) (hcells [a0, a1, a2, a3, a4, a5, a6, a7] (.slice Av rest.length cv) (n + (b.length : Int))) 217 ((HG2.out.block g (blk_lt HBW1.out) (Ne.symm HNE.out)).trans HBW1.out) (by (rw [hcells_size]; exact (by decide : 8 + 1 ≤ 8 + 2))) (one1 rfl) (hcells [a0, a1, a2, a3, a4, a5, a6, a7] (.slice A1 L.length c1) (n + (b.length : Int))) (by rfl) ?_; intro w3 hbw3 huw3; have HBW3 := Aside0.mk hbw3; clear hbw3; have HUW3 := Aside0.mk huw3; clear huw3; have hd3 : w3.cell? ⟨g, 8, none⟩ = some (.slice A1 L.length c1) := (blk_cell HBW3.out 8).trans rfl))
  have hinit : Aside0 (∃ (A' : Option Addr) (c' : Nat), w3.heap[g]? = some (.cells (hcells (eat [a0, a1, a2, a3, a4, a5, a6, a7] L 0) (.slice A' (L.drop (64 * 0)).length c') (n + (b.length : Int))) 217 (0, 0)) ∧ QB w3 base (.slice A' (L.drop (64 * 0)).length c') (L.drop (64 * 0)) ∧ Below base w w3 ∧ Kept w w3 (fun k => k = g ∨ (Value.slice Av rest.length cv).ownBlock = some k) ∧ ((Value.slice A' (L.drop (64 * 0)).length c').ownBlock = (Value.slice Av rest.length cv).ownBlock ∨ ∃ k, (Value.slice A' (L.drop (64 * 0)).length c').ownBlock = some k ∧ w.heap.size ≤ k)) := by
    have hk1 := HUW1.out.kept (S := fun k => k = g ∨ (Value.slice Av rest.length cv).ownBlock = some k) (.inl rfl)
    have hk2 : Kept w w2 (fun k => k = g ∨ (Value.slice Av rest.length cv).ownBlock = some k) := hk1.then_ (grown_kept HG2.out) (fun k hk => .inl (.inr hk))
    have hq3 : QB w3 base (.slice A1 L.length c1) L := HQ2.out.kept (HUW3.out.kept (S := fun k => k = g) rfl) (fun k hk hS => by
      have hlt := blk_lt HBW1.out
      rcases HAT2.out with h1 | ⟨b', h1, h2⟩
      · exact HNE.out (by rw [← h1, hk, hS])
      · rw [hk] at h1
        injection h1 with h1
        omega)
    have hb1 := HUW1.out.below (Below.refl base w) hbg
    have hb2 : Below base w w2 := hb1.grown HG2.out (by rw [HUW1.out.size]; exact hbase) (fun k hk => HQ.out.base k hk)
    exact ⟨A1, c1, HBW3.out, hq3, HUW3.out.below hb2 hbg, hk2.then_ (HUW3.out.kept (S := fun k => k = g) rfl) (fun k hk => .inl (.inl hk)), HAT2.out.imp id (fun ⟨b', h1, h2⟩ => ⟨b', h1, by rw [HUW1.out.size] at h2; exact h2⟩)⟩
  clear HBW1 HUW1 hd1 HQ2 HG2 HAT2 HBW3 HUW3 hd3 HG HQ HC HBR HBB HVS hc8 hc9 hcc hl hle1
  go_loopg [] (L.length / 64) (fun m wr => ∃ i, i + m = L.length / 64 ∧ Aside0 (∃ (A' : Option Addr) (c' : Nat), wr.heap[g]? = some (.cells (hcells (eat [a0, a1, a2, a3, a4, a5, a6, a7] L i) (.slice A' (L.drop (64 * i)).length c') (n + (b.length : Int))) 217 (0, 0)) ∧ QB wr base (.slice A' (L.drop (64 * i)).length c') (L.drop (64 * i)) ∧ Below base w wr ∧ Kept w wr (fun k => k = g ∨ (Value.slice Av rest.length cv).ownBlock = some k) ∧ ((Value.slice A' (L.drop (64 * i)).length c').ownBlock = (Value.slice Av rest.length cv).ownBlock ∨ ∃ k, (Value.slice A' (L.drop (64 * i)).length c').ownBlock = some k ∧ w.heap.size ≤ k)))
  case atStart => exact ⟨0, by omega, hinit⟩
  case round =>
    clear hinit
    obtain ⟨i, hi, hR⟩ := hrel
    obtain ⟨A', c', hb, hq, hbe, hk, hat⟩ := hR.out
    obtain ⟨R, hR'⟩ : ∃ R, R = L.drop (64 * i) := ⟨_, rfl⟩
    obtain ⟨x0, x1, x2, x3, x4, x5, x6, x7, hx⟩ := eight (eat_length [a0, a1, a2, a3, a4, a5, a6, a7] L i)
    have hRl : R.length + 64 * i = L.length := by rw [hR', List.length_drop]; omega
    rw [← hR', hx] at hb
    rw [← hR'] at hq hat
    have hcc2 : R.length ≤ c' := by
      obtain ⟨A2, c2, e2, hcc2⟩ := hq.slice
      simp only [Value.slice.injEq] at e2
      omega
    have hc0 : wr.cell? ⟨g, 0, none⟩ = some (.int .u32 x0) := (blk_cell hb 0).trans rfl
    have hc1 : wr.cell? ⟨g, 1, none⟩ = some (.int .u32 x1) := (blk_cell hb 1).trans rfl
    have hc2 : wr.cell? ⟨g, 2, none⟩ = some (.int .u32 x2) := (blk_cell hb 2).trans rfl
    have hc3 : wr.cell? ⟨g, 3, none⟩ = some (.int .u32 x3) := (blk_cell hb 3).trans rfl
    have hc4 : wr.cell? ⟨g, 4, none⟩ = some (.int .u32 x4) := (blk_cell hb 4).trans rfl
    have hc5 : wr.cell? ⟨g, 5, none⟩ = some (.int .u32 x5) := (blk_cell hb 5).trans rfl
    have hc6 : wr.cell? ⟨g, 6, none⟩ = some (.int .u32 x6) := (blk_cell hb 6).trans rfl
    have hc7 : wr.cell? ⟨g, 7, none⟩ = some (.int .u32 x7) := (blk_cell hb 7).trans rfl
    have hc8 : wr.cell? ⟨g, 8, none⟩ = some (.slice A' R.length c') := (blk_cell hb 8).trans rfl
    by_cases hge : 64 ≤ R.length
    · have hq1 : QB wr base (.slice A' 64 c') (R.take 64) := hq.take hge
      have hlt64 : (R.take 64).length = 64 := by rw [List.length_take]; omega
      have hC1 : Kd.C (Kd.int .u8) wr A' (R.take 64).length (R.take 64) := by
        refine QB.C (c := c') (base := base) ?_
        rw [hlt64]
        exact hq1
      have hBt : Bytes (R.take 64) := by
        intro x hx
        refine HBL.out x ?_
        rw [hR'] at hx
        exact List.mem_of_mem_drop (List.mem_of_mem_take hx)
      obtain ⟨y0, y1, y2, y3, y4, y5, y6, y7, hy⟩ := eight (show (cmpB [x0, x1, x2, x3, x4, x5, x6, x7] (R.take 64)).length = 8 by rw [cmpB, comp_length]; rfl)
      have hcall : ∀ W, Kd.C (Kd.int .u8) W A' (R.take 64).length (R.take 64) → Calls Try.prog 137 #[.agg #[.int .u32 x0, .int .u32 x1, .int .u32 x2, .int .u32 x3, .int .u32 x4, .int .u32 x5, .int .u32 x6, .int .u32 x7], .slice A' 64 c'] W fun e w' => e = .returned (.tuple #[.agg #[.int .u32 y0, .int .u32 y1, .int .u32 y2, .int .u32 y3, .int .u32 y4, .int .u32 y5, .int .u32 y6, .int .u32 y7], .int .i64 0]) ∧ Below W.heap.size W w' := by
        intro W hW
        have := RoundsB_calls [x0, x1, x2, x3, x4, x5, x6, x7] rfl A' c' (R.take 64) hBt hlt64 W hW (by omega)
        rw [hlt64, hy] at this
        exact this
      have hf0 : wr.frozen? ⟨g, 0, none⟩ = false := blk_frozen hb 0
      have hf1 : wr.frozen? ⟨g, 1, none⟩ = false := blk_frozen hb 1
      have hf2 : wr.frozen? ⟨g, 2, none⟩ = false := blk_frozen hb 2
      have hf3 : wr.frozen? ⟨g, 3, none⟩ = false := blk_frozen hb 3
      have hf4 : wr.frozen? ⟨g, 4, none⟩ = false := blk_frozen hb 4
      have hf5 : wr.frozen? ⟨g, 5, none⟩ = false := blk_frozen hb 5
      have hf6 : wr.frozen? ⟨g, 6, none⟩ = false := blk_frozen hb 6
      have hf7 : wr.frozen? ⟨g, 7, none⟩ = false := blk_frozen hb 7
      obtain ⟨i0, hi0, _, hsz0, _⟩ := info_parts info5
      have hcut := cut_from (P := Try.prog) 22 5 .i64 Try.underlying22 hi0 1 hsz0 A' R.length c' 64 (by omega) (by omega)
      have hq64 := hq.drop hge
      obtain ⟨A2, hA2⟩ : ∃ A2, A2 = (if c' = 64 then A' else A'.map (·.add 64)) := ⟨_, rfl⟩
      have HA2 := Aside0.mk hA2
      rw [show (64 : Int).toNat = 64 from rfl, show (64 * 1 : Nat) = 64 from rfl, ← hA2] at hcut
      rw [← hA2] at hq64
      have HQ64 := Aside0.mk hq64
      clear hi0 hsz0 hA2 hq64
      have hle64 : (64 : Int) ≤ (c' : Int) := by omega
      have HCALL := Aside0.mk hcall
      have HST := Aside0.mk (And.intro hb (And.intro hq (And.intro hbe (And.intro hk (And.intro hat (And.intro hC1 (And.intro hR' (And.intro hx hy))))))))
      clear hb hq hbe hk hat hC1 hR' hx hy hcall hq1 hlt64 hBt hR
      go_wp2
      go_region_with ((go_at_call 137; refine (HCALL.out _ (by first | with_reducible exact Kd.C_drew HST.out.2.2.2.2.2.1 | with_reducible exact Kd.C_drewN HST.out.2.2.2.2.2.1 _)).mono ?_; rintro e w9 ⟨rfl, hb9⟩; have hS9 := keepS (by exact HST.out.1) hb9; obtain ⟨s0, s1, s2, s3, s4, s5, s6, s7, s8, z0, z1, z2, z3, z4, z5, z6, z7⟩ := hS9; have z8 : w9.frozen? ⟨g, 8, none⟩ = false := keepF (by exact HST.out.1) hb9; have HB9 := Aside0.mk hb9; clear hb9))
      all_goals
        go_wp2
        go_roundg (L.length / 64 - (i + 1))
        case measure => omega
        case rel =>
          obtain ⟨hb, hq, hbe, hk, hat, hC1, hR', hx, hy⟩ := HST.out
          have hB9 := HB9.out
          have e1 : eat [a0, a1, a2, a3, a4, a5, a6, a7] L (i + 1) = [y0, y1, y2, y3, y4, y5, y6, y7] := by rw [eat, hx, ← hR', hy]
          have e2 : L.drop (64 * (i + 1)) = R.drop 64 := by rw [hR', List.drop_drop]; congr 1
          have e3 : (R.drop 64).length = R.length - 64 := List.length_drop
          have h9 : w9.heap[g]? = some (.cells (hcells [x0, x1, x2, x3, x4, x5, x6, x7] (.slice A' R.length c') (n + (b.length : Int))) 217 (0, 0)) := (hB9.block g (blk_lt (w := wr.drew) hb)).trans hb
          have hne9 : ∀ k, (Value.slice A2 (R.length - 64) (c' - 64)).ownBlock = some k → k ≠ g := fun k hk e => HQ64.out.ne hb (by decide) (by rw [hk, e])
          have hU : Upd w9 _ g := ((((((((((Upd.refl w9 g).setCell 0 (.int .u32 y0)).setCell 1 (.int .u32 y1)).setCell 2 (.int .u32 y2)).setCell 3 (.int .u32 y3)).setCell 4 (.int .u32 y4)).setCell 5 (.int .u32 y5)).setCell 6 (.int .u32 y6)).setCell 7 (.int .u32 y7)).setCell 8 (.slice A2 (R.length - 64) (c' - 64)))
          have hbs := hbe.size
          have hb9' : Below base w w9 := (below_drew hbe).trans (hB9.mono (by show base ≤ wr.heap.size; omega))
          refine ⟨i + 1, by omega, ⟨A2, c' - 64, ?_, ?_, ?_, ?_, ?_⟩⟩
          · rw [e1, e2, e3]
            exact hset9 h9 _
          · rw [e2, e3]
            have := HQ64.out
            exact q_move this (fun k hk => (hU.block k (hne9 k hk)).trans (hB9.block k (QB.lt this k hk)))
          · exact hU.below hb9' hbg
          · exact (hk.drew.below hB9).then_ (hU.kept (S := fun k => k = g) rfl) (fun k hk => .inl (.inl hk))
          · rw [e2, e3]
            have e5 : (Value.slice A2 (R.length - 64) (c' - 64)).ownBlock = (Value.slice A' R.length c').ownBlock := by
              rw [HA2.out, own_slice_block, own_slice_block]
              split
              · rfl
              · cases A' <;> simp [add_block]
            rw [e5]
            exact hat
    · go_wp2
      first | go_end0 | (refine bodyPost_ret (results_none rfl _ _ _) rfl ?_)
      have e1 : L.length / 64 = i := by omega
      rw [e1]
      rw [hR'] at hat hq hb
      rw [← hx] at hb
      exact ⟨_, rfl, hb, hq, hbe, hk, hat⟩
end Go.Proofs.Ytdbfclfglpbpmaa.Sha

namespace Go.Proofs.Ytdbfclfglpbpmaa.Sha
open Go.RowKit Go.Proofs.YtdbfclfglpbpmaaW.Hand Go.Proofs.YtdbfclfglpbpmaaW.PrintWords Go.Proofs.YtdbfclfglpbpmaaW.PrintLast Go.Proofs.YtdbfclfglpbpmaaW.PrintMore Go.Proofs.Ytdbfclfglpbpmaa.PF25F Go.Proofs.Ytdbfclfglpbpmaa.Base Go.Proofs.Ytdbfclfglpbpmaa.LF25F
set_option linter.unusedVariables false
set_option linter.unusedSimpArgs false
/-- append(v, b...) as one step of a region that draws. -/
theorem step_QB {P : Program} {ops : Array Oper} {o : Oper} {a : Act} {W : World} {K : Act → World → Prop} {Q' : Exit → Act → World → Prop} {E : Prop} (hw : Region.wanted o (yielded ops a.tmps) = true) (s x : Operand) (t : TypeId) (ho : o.op = .call { callee := .builtin .append, args := #[s, x], argTypes := #[t, t] }) (ht : P.underlying t = some (.slice 5)) (hinfo : (P.info? 5).map (fun i => (i.zero, i.size, i.bytes)) = some (some (.int .u8 0), 1, 1))
    (base : Nat) (v : Value) (xs ys : List Int) (A : Option Addr) (c : Nat) (hs : a.eval s = v) (hx : a.eval x = .slice A ys.length c) (hQ : QB W base v xs) (hC : Kd.C (Kd.int .u8) W A ys.length ys) (hl : xs.length + ys.length ≤ 140737488355328) (hbase : base ≤ W.heap.size)
    (h : ∀ v' w', QB w' base v' (xs ++ ys) → W.grownBy w' v.ownBlock → (v'.ownBlock = v.ownBlock ∨ ∃ b, v'.ownBlock = some b ∧ W.heap.size ≤ b) → K (a.put o.dst v') w') :
    if Region.wanted o (yielded ops a.tmps) = true then Oper.wp P o a W K Q' else E := by
  rw [if_pos hw]
  obtain ⟨v', w', hr, h1, h2, h3⟩ := QB_run W base t o.type ht hinfo v xs ys A c hQ hC hl hbase
  unfold Oper.wp execOp
  simp only [ho, resolve, invoke, builtin, Sem.run_bind, Sem.run_pure, Result.andThen_ok, List.map_toArray, List.map_cons, List.map_nil, hs, hx, hr]
  exact h v' w' h1 h2 h3
theorem QB.empty (W : World) (base : Nat) (hb : base ≤ W.heap.size) (cs : Array Value) : QB (W.alloc (.cells cs 5)) base (.slice (some ⟨W.heap.size, 0, none⟩) 0 0) [] :=
  ⟨by simp [nums], .inl ⟨rfl, _, rfl, fun a ha => by
    injection ha with ha
    subst ha
    exact ⟨hb, cs, heap_alloc_new W _⟩⟩⟩
set_option maxHeartbeats 8000000 in
set_option maxRecDepth 100000 in
theorem New_calls (w : World) : Calls Try.prog 124 #[] w fun e w' => ∃ g, e = .returned (.pointer (some ⟨g, 0, none⟩)) ∧ w'.heap[g]? = some (.cells (hcells FS (.slice none 0 0) 0) 217 (0, 0)) ∧ w.heap.size ≤ g ∧ Below w.heap.size w w' := by
  go_enter Try.func124, Try.ntmps124
  go_wp2_with (first | (go_at_call 136; refine (First_calls _).mono ?_; rintro e w1 ⟨rfl, hb1⟩; have HB1 := Aside0.mk hb1; clear hb1) | ((with_reducible refine gate_dst (N := 2) rfl ?_); refine L_build rfl 217 _ rfl (hcells FS (.slice none 0 0) 0) (by kernel_rfl) ?_) | ((with_reducible refine gate_dst (N := 3) rfl ?_); refine L_box rfl 217 (.tmp 2) rfl (.agg (hcells FS (.slice none 0 0) 0)) rfl ?_; intro g3 w2 hb3 hg3 hs3 hl3; have HB3 := Aside0.mk hb3; clear hb3; have HG3 := Aside0.mk hg3; clear hg3; have HS3 := Aside0.mk hs3; clear hs3; have HL3 := Aside0.mk hl3; clear hl3))
  go_ret
  exact ⟨g3, rfl, HB3.out, by have := HB1.out.size; have := HG3.out; omega, below_step HB1.out HL3.out⟩
end Go.Proofs.Ytdbfclfglpbpmaa.Sha

namespace Go.Proofs.Ytdbfclfglpbpmaa.Sha
open Go.RowKit Go.Proofs.YtdbfclfglpbpmaaW.Hand Go.Proofs.YtdbfclfglpbpmaaW.PrintWords Go.Proofs.YtdbfclfglpbpmaaW.PrintLast Go.Proofs.YtdbfclfglpbpmaaW.PrintMore Go.Proofs.Ytdbfclfglpbpmaa.PF25F Go.Proofs.Ytdbfclfglpbpmaa.Base Go.Proofs.Ytdbfclfglpbpmaa.LF25F
set_option linter.unusedVariables false
set_option linter.unusedSimpArgs false
theorem keepW {W w' : World} {g : Nat} {x0 x1 x2 x3 x4 x5 x6 x7 n : Int} {A : Option Addr} {m c : Nat} (hb : W.heap[g]? = some (.cells (hcells [x0, x1, x2, x3, x4, x5, x6, x7] (.slice A m c) n) 217 (0, 0))) (hB : w'.heap[g]? = W.heap[g]?) : w'.cell? ⟨g, 0, none⟩ = some (.int .u32 x0) ∧ w'.cell? ⟨g, 1, none⟩ = some (.int .u32 x1) ∧ w'.cell? ⟨g, 2, none⟩ = some (.int .u32 x2) ∧ w'.cell? ⟨g, 3, none⟩ = some (.int .u32 x3) ∧ w'.cell? ⟨g, 4, none⟩ = some (.int .u32 x4) ∧ w'.cell? ⟨g, 5, none⟩ = some (.int .u32 x5) ∧ w'.cell? ⟨g, 6, none⟩ = some (.int .u32 x6) ∧ w'.cell? ⟨g, 7, none⟩ = some (.int .u32 x7) ∧ w'.cell? ⟨g, 8, none⟩ = some (.slice A m c) ∧ w'.cell? ⟨g, 9, none⟩ = some (.int .i64 n) := by
  have h := hB.trans hb
  exact ⟨(blk_cell h 0).trans rfl, (blk_cell h 1).trans rfl, (blk_cell h 2).trans rfl, (blk_cell h 3).trans rfl, (blk_cell h 4).trans rfl, (blk_cell h 5).trans rfl, (blk_cell h 6).trans rfl, (blk_cell h 7).trans rfl, (blk_cell h 8).trans rfl, (blk_cell h 9).trans rfl⟩
theorem keepZ {w' : World} {g : Nat} (h : w'.heap[g]? = some (.cells (hcells (List.replicate 8 0) (.slice none 0 0) 0) 217 (0, 0))) : w'.cell? ⟨g, 0, none⟩ = some (.int .u32 0) ∧ w'.cell? ⟨g, 1, none⟩ = some (.int .u32 0) ∧ w'.cell? ⟨g, 2, none⟩ = some (.int .u32 0) ∧ w'.cell? ⟨g, 3, none⟩ = some (.int .u32 0) ∧ w'.cell? ⟨g, 4, none⟩ = some (.int .u32 0) ∧ w'.cell? ⟨g, 5, none⟩ = some (.int .u32 0) ∧ w'.cell? ⟨g, 6, none⟩ = some (.int .u32 0) ∧ w'.cell? ⟨g, 7, none⟩ = some (.int .u32 0) ∧ w'.cell? ⟨g, 8, none⟩ = some (.slice none 0 0) ∧ w'.cell? ⟨g, 9, none⟩ = some (.int .i64 0) ∧ w'.frozen? ⟨g, 0, none⟩ = false ∧ w'.frozen? ⟨g, 1, none⟩ = false ∧ w'.frozen? ⟨g, 2, none⟩ = false ∧ w'.frozen? ⟨g, 3, none⟩ = false ∧ w'.frozen? ⟨g, 4, none⟩ = false ∧ w'.frozen? ⟨g, 5, none⟩ = false ∧ w'.frozen? ⟨g, 6, none⟩ = false ∧ w'.frozen? ⟨g, 7, none⟩ = false ∧ w'.frozen? ⟨g, 8, none⟩ = false ∧ w'.frozen? ⟨g, 9, none⟩ = false :=
  ⟨(blk_cell h 0).trans rfl, (blk_cell h 1).trans rfl, (blk_cell h 2).trans rfl, (blk_cell h 3).trans rfl, (blk_cell h 4).trans rfl, (blk_cell h 5).trans rfl, (blk_cell h 6).trans rfl, (blk_cell h 7).trans rfl, (blk_cell h 8).trans rfl, (blk_cell h 9).trans rfl, blk_frozen h 0, blk_frozen h 1, blk_frozen h 2, blk_frozen h 3, blk_frozen h 4, blk_frozen h 5, blk_frozen h 6, blk_frozen h 7, blk_frozen h 8, blk_frozen h 9⟩
theorem C_hash {w : World} {g : Nat} {h : List Int} {v : Value} {n : Int} (hb : w.heap[g]? = some (.cells (hcells h v n) 217 (0, 0))) (hl : h.length ≤ 100) : Kd.C (Kd.int .u32) w (some ⟨g, 0, none⟩) h.length h := by
  refine ⟨rfl, by omega, fun hp => ⟨_, rfl, fun j p hj => ⟨[.int .u32 p], rfl, rfl, fun i u hu => ?_⟩⟩⟩
  have hi : i = 0 := by
    have := (List.getElem?_eq_some_iff.1 hu).1
    simp at this
    omega
  subst hi
  have e : Value.int .u32 p = u := by simpa using hu
  subst e
  rw [show (Kd.int .u32).sz = 1 from rfl, Nat.mul_one, Nat.add_zero, add_plain, blk_cell hb j]
  have hjl := (List.getElem?_eq_some_iff.1 hj).1
  unfold hcells
  rw [List.getElem?_toArray, List.getElem?_append_left (by simpa using hjl), List.getElem?_map, hj]
  rfl
theorem hset10 {w : World} {g : Nat} {x0 x1 x2 x3 x4 x5 x6 x7 y0 y1 y2 y3 y4 y5 y6 y7 n n' : Int} {v v' : Value} (hb : w.heap[g]? = some (.cells (hcells [x0, x1, x2, x3, x4, x5, x6, x7] v n) 217 (0, 0))) : ((((((((((w.setCell ⟨g, 0, none⟩ (.int .u32 y0)).setCell ⟨g, 1, none⟩ (.int .u32 y1)).setCell ⟨g, 2, none⟩ (.int .u32 y2)).setCell ⟨g, 3, none⟩ (.int .u32 y3)).setCell ⟨g, 4, none⟩ (.int .u32 y4)).setCell ⟨g, 5, none⟩ (.int .u32 y5)).setCell ⟨g, 6, none⟩ (.int .u32 y6)).setCell ⟨g, 7, none⟩ (.int .u32 y7)).setCell ⟨g, 8, none⟩ v').setCell ⟨g, 9, none⟩ (.int .i64 n')).heap[g]? = some (.cells (hcells [y0, y1, y2, y3, y4, y5, y6, y7] v' n') 217 (0, 0)) ∧ Upd w ((((((((((w.setCell ⟨g, 0, none⟩ (.int .u32 y0)).setCell ⟨g, 1, none⟩ (.int .u32 y1)).setCell ⟨g, 2, none⟩ (.int .u32 y2)).setCell ⟨g, 3, none⟩ (.int .u32 y3)).setCell ⟨g, 4, none⟩ (.int .u32 y4)).setCell ⟨g, 5, none⟩ (.int .u32 y5)).setCell ⟨g, 6, none⟩ (.int .u32 y6)).setCell ⟨g, 7, none⟩ (.int .u32 y7)).setCell ⟨g, 8, none⟩ v').setCell ⟨g, 9, none⟩ (.int .i64 n')) g := by
  refine ⟨?_, ((((((((((Upd.refl w g).setCell 0 (.int .u32 y0)).setCell 1 (.int .u32 y1)).setCell 2 (.int .u32 y2)).setCell 3 (.int .u32 y3)).setCell 4 (.int .u32 y4)).setCell 5 (.int .u32 y5)).setCell 6 (.int .u32 y6)).setCell 7 (.int .u32 y7)).setCell 8 v').setCell 9 (.int .i64 n')⟩
  have h9 := hset9 (y0 := y0) (y1 := y1) (y2 := y2) (y3 := y3) (y4 := y4) (y5 := y5) (y6 := y6) (y7 := y7) hb v'
  exact (blk_set h9 9 (.int .i64 n')).trans rfl
set_option maxHeartbeats 8000000 in
set_option maxRecDepth 100000 in
theorem HSum_calls (g : Nat) (h : List Int) (hh : h.length = 8) (A : Option Addr) (c : Nat) (n : Int) (rest : List Int) (base : Nat) (w : World) (hg : w.heap[g]? = some (.cells (hcells h (.slice A rest.length c) n) 217 (0, 0))) (hQ : QB w base (.slice A rest.length c) rest) (hBr : Bytes rest) (hl : rest.length ≤ 100000000000) (hn0 : 0 ≤ n) (hn1 : n ≤ 100000000000) (pl : List Int) (kp : Nat) (hpl : sha_Pad.f kp n = some pl) (hBp : Bytes pl) (hpll : pl.length ≤ 1000) :
    Calls Try.prog 127 #[.pointer (some ⟨g, 0, none⟩)] w fun e w' => e = .returned (.agg (arr .u8 (bytesL (eat h (rest ++ pl) ((rest ++ pl).length / 64))))) ∧ Below w.heap.size w w' := by
  obtain ⟨x0, x1, x2, x3, x4, x5, x6, x7, rfl⟩ := eight hh
  have hc0 : w.cell? ⟨g, 0, none⟩ = some (.int .u32 x0) := (blk_cell hg 0).trans rfl
  have hc1 : w.cell? ⟨g, 1, none⟩ = some (.int .u32 x1) := (blk_cell hg 1).trans rfl
  have hc2 : w.cell? ⟨g, 2, none⟩ = some (.int .u32 x2) := (blk_cell hg 2).trans rfl
  have hc3 : w.cell? ⟨g, 3, none⟩ = some (.int .u32 x3) := (blk_cell hg 3).trans rfl
  have hc4 : w.cell? ⟨g, 4, none⟩ = some (.int .u32 x4) := (blk_cell hg 4).trans rfl
  have hc5 : w.cell? ⟨g, 5, none⟩ = some (.int .u32 x5) := (blk_cell hg 5).trans rfl
  have hc6 : w.cell? ⟨g, 6, none⟩ = some (.int .u32 x6) := (blk_cell hg 6).trans rfl
  have hc7 : w.cell? ⟨g, 7, none⟩ = some (.int .u32 x7) := (blk_cell hg 7).trans rfl
  have hc8 : w.cell? ⟨g, 8, none⟩ = some (.slice A rest.length c) := (blk_cell hg 8).trans rfl
  have hc9 : w.cell? ⟨g, 9, none⟩ = some (.int .i64 n) := (blk_cell hg 9).trans rfl
  obtain ⟨s0, s1, s2, s3, s4, s5, s6, s7, hHs⟩ := eight (show (eat [x0, x1, x2, x3, x4, x5, x6, x7] (rest ++ pl) ((rest ++ pl).length / 64)).length = 8 by rw [eat_length]; rfl)
  rw [hHs]
  have HHS := Aside0.mk hHs
  clear hHs
  have HG := Aside0.mk hg
  have HQ := Aside0.mk hQ
  have HBR := Aside0.mk hBr
  have HPL := Aside0.mk hpl
  have HBP := Aside0.mk hBp
  clear hg hQ hBr hpl hBp hh
  go_enter Try.func127, Try.ntmps127
  go_upto_region 1 with (fail)
  generalize hw1 : w.alloc _ = w1
  have hb2 : w1.heap[w.heap.size]? = some (.cells (arr .u8 (List.replicate 32 0)) 130 (0, 0)) := by rw [← hw1]; exact heap_alloc_new w _
  have hl2 : Below w.heap.size w w1 := by rw [← hw1]; exact below_alloc (Below.refl _ _) _
  have hs2 : w1.heap.size = w.heap.size + 1 := by rw [← hw1]; simp
  have HB2 := Aside0.mk hb2
  have HL2 := Aside0.mk hl2
  have HS2 := Aside0.mk hs2
  clear hw1 hb2 hl2 hs2
  have hglt : g < w.heap.size := blk_lt HG.out
  have hcell1 : ∀ i, w1.cell? ⟨g, i, none⟩ = w.cell? ⟨g, i, none⟩ := fun i => by unfold World.cell?; rw [show w1.heap[(⟨g, i, none⟩ : Addr).block]? = w.heap[(⟨g, i, none⟩ : Addr).block]? from HL2.out.block g hglt]
  have hd0 := (hcell1 0).trans hc0
  have hd1 := (hcell1 1).trans hc1
  have hd2 := (hcell1 2).trans hc2
  have hd3 := (hcell1 3).trans hc3
  have hd4 := (hcell1 4).trans hc4
  have hd5 := (hcell1 5).trans hc5
  have hd6 := (hcell1 6).trans hc6
  have hd7 := (hcell1 7).trans hc7
  have hd8 := (hcell1 8).trans hc8
  have hd9 := (hcell1 9).trans hc9
  have hg1 : w1.heap[g]? = some (.cells (hcells [x0, x1, x2, x3, x4, x5, x6, x7] (.slice A rest.length c) n) 217 (0, 0)) := (HL2.out.block g hglt).trans HG.out
  have HG1 := Aside0.mk hg1
  have HQ1 := Aside0.mk (HQ.out.below HL2.out)
  clear hcell1 hc0 hc1 hc2 hc3 hc4 hc5 hc6 hc7 hc8 hc9 hg1
  have hglt1 : g < w1.heap.size := blk_lt HG1.out
  have q1 : Aside0 (∀ cs, QB (w1.alloc (.cells cs 5)).drew w1.heap.size (.slice (some ⟨w1.heap.size, 0, none⟩) 0 0) []) := ⟨fun cs => QB.empty w1 w1.heap.size (Nat.le_refl _) cs⟩
  have q2 : Aside0 (∀ cs H, QB ((w1.alloc (.cells cs 5)).alloc H).drew w1.heap.size (.slice (some ⟨w1.heap.size, 0, none⟩) 0 0) []) := ⟨fun cs H => (QB.empty w1 w1.heap.size (Nat.le_refl _) cs).below (below_drew (below_alloc (Below.refl _ _) H))⟩
  have q3 : Aside0 (∀ cs H, QB ((w1.alloc H).alloc (.cells cs 5)).drew w1.heap.size (.slice (some ⟨w1.heap.size + 1, 0, none⟩) 0 0) []) := ⟨fun cs H => by
    have := QB.empty (w1.alloc H) w1.heap.size (by simp) cs
    simp only [World.size_alloc] at this
    exact this⟩
  have hCr := QB.C HQ1.out
  have c1 : Aside0 (∀ B, Kd.C (Kd.int .u8) (w1.alloc B).drew A rest.length rest) := ⟨fun B => Kd.C_drew (Kd.C_alloc hCr B)⟩
  have c2 : Aside0 (∀ B H, Kd.C (Kd.int .u8) ((w1.alloc B).alloc H).drew A rest.length rest) := ⟨fun B H => Kd.C_drew (Kd.C_alloc (Kd.C_alloc hCr B) H)⟩
  have b1 : Aside0 (∀ B, (w1.alloc B).drew.heap[g]? = some (.cells (hcells [x0, x1, x2, x3, x4, x5, x6, x7] (.slice A rest.length c) n) 217 (0, 0))) := ⟨fun B => (Below.heap_alloc w1 B g hglt1).trans HG1.out⟩
  have b2 : Aside0 (∀ B H, ((w1.alloc B).alloc H).drew.heap[g]? = some (.cells (hcells [x0, x1, x2, x3, x4, x5, x6, x7] (.slice A rest.length c) n) 217 (0, 0))) := ⟨fun B H => (Below.heap_alloc (w1.alloc B) H g (by simp; omega)).trans (b1.out B)⟩
  clear hCr
  have hn0 : ¬ g = w1.heap.size := by omega
  have hn1 : ¬ g = w1.heap.size + 1 := by omega
  have hn2 : ¬ w1.heap.size = g := by omega
  have hn3 : ¬ w1.heap.size + 1 = g := by omega
  have b4 : Aside0 (∀ B, ((w1.alloc B).alloc (.cells (hcells (List.replicate 8 0) (.slice none 0 0) 0) 217)).drew.heap[w1.heap.size + 1]? = some (.cells (hcells (List.replicate 8 0) (.slice none 0 0) 0) 217 (0, 0))) := ⟨fun B => by
    have := heap_alloc_new (w1.alloc B) (.cells (hcells (List.replicate 8 0) (.slice none 0 0) 0) 217)
    rw [World.size_alloc] at this
    exact this⟩
  have b5 : Aside0 (∀ B, ((w1.alloc (.cells (hcells (List.replicate 8 0) (.slice none 0 0) 0) 217)).alloc B).drew.heap[w1.heap.size]? = some (.cells (hcells (List.replicate 8 0) (.slice none 0 0) 0) 217 (0, 0))) := ⟨fun B => (Below.heap_alloc (w1.alloc _) B w1.heap.size (by simp)).trans (heap_alloc_new w1 _)⟩
  go_cut [3] (fun v3 wc => ∃ (g3 : Nat) (A' : Option Addr) (c' : Nat), v3 = .pointer (some ⟨g3, 0, none⟩) ∧ Aside0 (wc.heap[g3]? = some (.cells (hcells [x0, x1, x2, x3, x4, x5, x6, x7] (.slice A' rest.length c') 0) 217 (0, 0)) ∧ w1.heap.size ≤ g3 ∧ QB wc w1.heap.size (.slice A' rest.length c') rest ∧ Below w1.heap.size w1 wc))
  case first =>
   go_region_held3 (fun w' => w'.cell? ⟨g, 0, none⟩ = some (.int .u32 x0) ∧ w'.cell? ⟨g, 1, none⟩ = some (.int .u32 x1) ∧ w'.cell? ⟨g, 2, none⟩ = some (.int .u32 x2) ∧ w'.cell? ⟨g, 3, none⟩ = some (.int .u32 x3) ∧ w'.cell? ⟨g, 4, none⟩ = some (.int .u32 x4) ∧ w'.cell? ⟨g, 5, none⟩ = some (.int .u32 x5) ∧ w'.cell? ⟨g, 6, none⟩ = some (.int .u32 x6) ∧ w'.cell? ⟨g, 7, none⟩ = some (.int .u32 x7) ∧ w'.cell? ⟨g, 8, none⟩ = some (.slice A rest.length c) ∧ w'.cell? ⟨g, 9, none⟩ = some (.int .i64 n)) (first | (with_reducible exact hS9) | go_keep) (first | ((refine step_QB (by rfl) (.tmp 9) (.tmp 13) 22 (by rfl) Try.underlying22 info5 w1.heap.size (.slice (some ⟨w1.heap.size, 0, none⟩) 0 0) [] rest A c (by rfl) (by rfl) (by with_reducible exact q1.out _) (by with_reducible exact c1.out _) (by simp; omega) (by simp) ?_; intro v' w' hq hgr hat; rw [List.nil_append] at hq; obtain ⟨A', c', hv', hle'⟩ := hq.slice; subst hv'; have hS9 := keepW (b1.out _) (hgr.block g (by simp; omega) (by simp [Value.ownBlock]; omega)); have hn4 : ¬ g = w'.heap.size := (by have := hgr.size; simp at this; omega); have hn5 : ¬ w'.heap.size = g := (by have := hgr.size; simp at this; omega); have HK := Aside0.mk (And.intro hq (And.intro hgr hat)); clear hq hgr hat)) | ((refine step_QB (by rfl) (.tmp 9) (.tmp 13) 22 (by rfl) Try.underlying22 info5 w1.heap.size (.slice (some ⟨w1.heap.size, 0, none⟩) 0 0) [] rest A c (by rfl) (by rfl) (by with_reducible exact q2.out _ _) (by with_reducible exact c2.out _ _) (by simp; omega) (by simp; omega) ?_; intro v' w' hq hgr hat; rw [List.nil_append] at hq; obtain ⟨A', c', hv', hle'⟩ := hq.slice; subst hv'; have hS9 := keepW (b2.out _ _) (hgr.block g (by simp; omega) (by simp [Value.ownBlock]; omega)); obtain ⟨z0, z1, z2, z3, z4, z5, z6, z7, z8, z9, f0, f1, f2, f3, f4, f5, f6, f7, f8, f9⟩ := keepZ ((hgr.block (w1.heap.size + 1) (by simp) (by simp [Value.ownBlock])).trans (b4.out _)); have HZ := Aside0.mk ((hgr.block (w1.heap.size + 1) (by simp) (by simp [Value.ownBlock])).trans (b4.out _)); have hn4 : ¬ g = w'.heap.size := (by have := hgr.size; simp at this; omega); have hn5 : ¬ w'.heap.size = g := (by have := hgr.size; simp at this; omega); have HK := Aside0.mk (And.intro hq (And.intro hgr hat)); clear hq hgr hat)) | ((refine step_QB (by rfl) (.tmp 9) (.tmp 13) 22 (by rfl) Try.underlying22 info5 w1.heap.size (.slice (some ⟨w1.heap.size + 1, 0, none⟩) 0 0) [] rest A c (by rfl) (by rfl) (by with_reducible exact q3.out _ _) (by with_reducible exact c2.out _ _) (by simp; omega) (by simp; omega) ?_; intro v' w' hq hgr hat; rw [List.nil_append] at hq; obtain ⟨A', c', hv', hle'⟩ := hq.slice; subst hv'; have hS9 := keepW (b2.out _ _) (hgr.block g (by simp; omega) (by simp [Value.ownBlock]; omega)); obtain ⟨z0, z1, z2, z3, z4, z5, z6, z7, z8, z9, f0, f1, f2, f3, f4, f5, f6, f7, f8, f9⟩ := keepZ ((hgr.block w1.heap.size (by simp; omega) (by simp [Value.ownBlock])).trans (b5.out _)); have HZ := Aside0.mk ((hgr.block w1.heap.size (by simp; omega) (by simp [Value.ownBlock])).trans (b5.out _)); have hn4 : ¬ g = w'.heap.size := (by have := hgr.size; simp at this; omega); have hn5 : ¬ w'.heap.size = g := (by have := hgr.size; simp at this; omega); have HK := Aside0.mk (And.intro hq (And.intro hgr hat)); clear hq hgr hat)))
   · go_wp2
     go_meet
     case rel =>
       obtain ⟨hq, hgr, hat⟩ := HK.out
       have hbW : Below w1.heap.size w1 w' := (below_drew (below_alloc (Below.refl _ _) _)).grown hgr (by simp) (fun k hk => by simp [Value.ownBlock] at hk; omega)
       exact ⟨w'.heap.size, A', c', rfl, ⟨heap_alloc_new w' _, hbW.size, hq.below (below_alloc (Below.refl _ _) _), hbW.alloc hbW.size _⟩⟩
   · go_wp2
     go_meet
     case rel =>
       obtain ⟨hq, hgr, hat⟩ := HK.out
       have hbW : Below w1.heap.size w1 w' := (below_drew (below_step (below_alloc (Below.refl _ _) _) (below_alloc (Below.refl _ _) _))).grown hgr (by simp; omega) (fun k hk => by simp [Value.ownBlock] at hk; omega)
       obtain ⟨e1, e2⟩ := hset10 (y0 := x0) (y1 := x1) (y2 := x2) (y3 := x3) (y4 := x4) (y5 := x5) (y6 := x6) (y7 := x7) (n' := 0) (v' := .slice A' rest.length c') (show w'.heap[w1.heap.size + 1]? = some (.cells (hcells [0, 0, 0, 0, 0, 0, 0, 0] (.slice none 0 0) 0) 217 (0, 0)) from HZ.out)
       exact ⟨w1.heap.size + 1, A', c', rfl, ⟨e1, by omega, hq.kept (e2.kept (S := fun k => k = w1.heap.size + 1) rfl) (fun k hk hS => hq.ne HZ.out (by decide) (hS ▸ hk)), e2.below hbW (by omega)⟩⟩
   · go_wp2
     go_meet
     case rel =>
       obtain ⟨hq, hgr, hat⟩ := HK.out
       have hbW : Below w1.heap.size w1 w' := (below_drew (below_step (below_alloc (Below.refl _ _) _) (below_alloc (Below.refl _ _) _))).grown hgr (by simp; omega) (fun k hk => by simp [Value.ownBlock] at hk; omega)
       obtain ⟨e1, e2⟩ := hset10 (y0 := x0) (y1 := x1) (y2 := x2) (y3 := x3) (y4 := x4) (y5 := x5) (y6 := x6) (y7 := x7) (n' := 0) (v' := .slice A' rest.length c') (show w'.heap[w1.heap.size]? = some (.cells (hcells [0, 0, 0, 0, 0, 0, 0, 0] (.slice none 0 0) 0) 217 (0, 0)) from HZ.out)
       exact ⟨w1.heap.size, A', c', rfl, ⟨e1, by omega, hq.kept (e2.kept (S := fun k => k = w1.heap.size) rfl) (fun k hk hS => hq.ne HZ.out (by decide) (hS ▸ hk)), e2.below hbW (by omega)⟩⟩
  case rest =>
   clear q1 q2 q3 c1 c2 b1 b2 b4 b5 hd0 hd1 hd2 hd3 hd4 hd5 hd6 hd7 hd8 hd9 hn0 hn1 hn2 hn3
   obtain ⟨g3, A', c', rfl, HN⟩ := hcut
   have hgc : wc.cell? ⟨g, 9, none⟩ = some (.int .i64 n) := by
     have := (HN.out.2.2.2.block g hglt1).trans HG1.out
     exact (blk_cell this 9).trans rfl
   have hg3w : w1.heap.size ≤ g3 := HN.out.2.1
   go_wp2_with (first | (go_at_call 138; refine (sha_Pad.calls kp n pl _ HPL.out).mono ?_; rintro e w4 ⟨v0, rfl, hr4, hb4⟩; obtain ⟨Ap, cp, rfl, hle, hC⟩ := Kd.R_reads hr4; have HCP := Aside0.mk hC; have HBP4 := Aside0.mk hb4; clear hr4 hC hb4) | (go_at_call 125; refine (Write_calls g3 [x0, x1, x2, x3, x4, x5, x6, x7] rfl (.slice A' rest.length c') 0 rest pl Ap cp w1.heap.size w4 ((HBP4.out.block g3 (blk_lt HN.out.1)).trans HN.out.1) hg3w (Nat.le_trans HN.out.2.2.2.size HBP4.out.size) (HN.out.2.2.1.below HBP4.out) HBR.out HCP.out hle HBP.out (by omega) (by omega) (by omega)).mono ?_; rintro e w5 ⟨v5, rfl, h5, hq5, hb5, hk5, ho5⟩; have H5 := Aside0.mk h5; have HB5 := Aside0.mk hb5; clear h5 hq5 hb5 hk5 ho5) | ((with_reducible refine gate_dst (N := 4) rfl ?_); refine L_alloc rfl 130 rfl (.agg (arr .u8 (List.replicate 32 0))) 32 (by kernel_rfl) ?_; intro g4 w6 hb4 hg4 hs4 hl4; have HB4 := Aside0.mk hb4; clear hb4; have HG4 := Aside0.mk hg4; clear hg4; have HS4 := Aside0.mk hs4; clear hs4; have HL4 := Aside0.mk hl4; clear hl4))
   have hg3w6 := (HL4.out.block g3 (blk_lt H5.out)).trans H5.out
   rw [HHS.out] at hg3w6
   obtain ⟨Hs, hHs⟩ : ∃ Hs, Hs = [s0, s1, s2, s3, s4, s5, s6, s7] := ⟨_, rfl⟩
   have hHl : Hs.length = 8 := by rw [hHs]; rfl
   rw [← hHs] at hg3w6
   obtain ⟨kb, hkb⟩ := (Bytes_ev Hs (by omega)).rounds
   have hC32 : Kd.C (Kd.int .u32) w6 (some ⟨g3, 0, none⟩) Hs.length Hs := C_hash hg3w6 (by omega)
   have hbl : (bytesL Hs).length = 32 := by rw [bytesL_len, hHl]
   have HBL := Aside0.mk hbl
   have hbe : Below w.heap.size w w6 := (((HL2.out.trans (HN.out.2.2.2.mono (by have := HS2.out; omega))).trans (HBP4.out.mono (by have := HN.out.2.2.2.size; have := HS2.out; omega))).trans (HB5.out.mono (by have := HS2.out; omega))).trans (HL4.out.mono (by have := HB5.out.size; have := HBP4.out.size; have := HN.out.2.2.2.size; have := HS2.out; omega))
   have hb26 : w6.heap[w.heap.size]? = some (.cells (arr .u8 (List.replicate 32 0)) 130 (0, 0)) := by
     have l1 := blk_lt HB2.out
     have s1 := HN.out.2.2.2.size
     have s2 := HBP4.out.size
     have s3 := HB5.out.size
     rw [HL4.out.block _ (by omega), HB5.out.block _ (by omega), HBP4.out.block _ (by omega), HN.out.2.2.2.block _ (by omega)]
     exact HB2.out
   have hlt24 : w.heap.size < g4 := by
     have l1 := blk_lt HB2.out
     have s1 := HN.out.2.2.2.size
     have s2 := HBP4.out.size
     have s3 := HB5.out.size
     have := HG4.out
     omega
   have H26 := Aside0.mk hb26
   have HBE := Aside0.mk hbe
   have HKB := Aside0.mk hkb
   have HC32 := Aside0.mk hC32
   subst hHs
   clear hHl hg3w6 hkb hC32 hbl hbe hb26 H5 HB5 HL4 HG4 HS4 HCP HBP4 HN hgc
   simp only [Act.put]
   go_region_law (first | ((refine step_copy_splice (by rfl) (.tmp 22) (.tmp 25) 22 22 (by rfl) 5 Try.underlying22 (by kernel_rfl) (some ⟨g4, 0, none⟩) Ab 32 32 (bytesL [s0, s1, s2, s3, s4, s5, s6, s7]).length cb (by rfl) (by rfl) g4 0 (List.replicate 32 (Value.int .u8 0)) 130 (by rw [HB7.out.block g4 (blk_lt HB4.out)]; exact HB4.out) ((bytesL [s0, s1, s2, s3, s4, s5, s6, s7]).map (Value.int .u8)) (by rw [List.length_map, HBL.out]; rfl) (fun hp => ⟨rfl, C_cells HC7.out (by rw [HBL.out]; omega)⟩) (by rw [List.length_map, HBL.out]; simp) (by intro v hv; obtain ⟨x, _, rfl⟩ := List.mem_map.1 hv; rfl) g4 w7 (Below.refl _ _) (Nat.le_refl _) ?_; intro w8 hb8 hB8; have HD8 := Aside0.mk hb8.out; have HB8 := Aside0.mk hB8; clear hb8 hB8)) | (go_simp; go_at_call 139; refine (word_Bytes.calls kb (some ⟨g3, 0, none⟩) 8 [s0, s1, s2, s3, s4, s5, s6, s7] _ _ (by first | with_reducible exact Kd.C_drew HC32.out | with_reducible exact HC32.out) (by simp) HKB.out).mono ?_; rintro e w7 ⟨v7, rfl, hr7, hb7⟩; obtain ⟨Ab, cb, rfl, hle7, hC7⟩ := Kd.R_reads hr7; have HC7 := Aside0.mk hC7; have HB7 := Aside0.mk hb7; clear hr7 hC7 hb7))
   have hd8 : w8.heap[g4]? = some (.cells (arr .u8 (bytesL [s0, s1, s2, s3, s4, s5, s6, s7])) 130 (0, 0)) := by
     rw [HD8.out]
     unfold splice arr
     rw [List.take_zero, List.nil_append, List.drop_of_length_le (by rw [List.length_map, HBL.out]; simp), List.append_nil]
   have hw7 : w7.heap[w.heap.size]? = w6.heap[w.heap.size]? := HB7.out.block w.heap.size (blk_lt H26.out)
   have hd2 : w8.heap[w.heap.size]? = some (.cells (arr .u8 (List.replicate 32 0)) 130 (0, 0)) := (HB8.out.block _ hlt24).trans (hw7.trans H26.out)
   have HX8 := Aside0.mk hd8
   have HX2 := Aside0.mk hd2
   clear hd8 hd2 hw7 HD8
   go_wp2_with (first | ((with_reducible refine gate_dst (N := 27) rfl ?_); refine L_load rfl 130 (.tmp 4) rfl g4 rfl 130 (arr .u8 (bytesL [s0, s1, s2, s3, s4, s5, s6, s7])) _ (HX8.out) Try.underlying130 rfl (by rw [arr_size, HBL.out]; kernel_rfl) ?_) | (refine L_store rfl rfl 130 (.tmp 2) (.tmp 27) (by rfl) w.heap.size (arr .u8 (bytesL [s0, s1, s2, s3, s4, s5, s6, s7])) (by rfl) (by rfl) (arr .u8 (List.replicate 32 0)) 130 (HX2.out) (by rw [arr_size, arr_size, HBL.out]; rfl) (by rw [arr_size, HBL.out]; kernel_rfl) (arr_one _ _) ?_; intro w9 hbw9 huw9; have HBW9 := Aside0.mk hbw9; clear hbw9; have HUW9 := Aside0.mk huw9; clear huw9))
   have hs7 := HB7.out.size
   have hbx : Below w.heap.size w w8 := (HBE.out.trans ((below_drew (Below.refl _ w6)).trans (HB7.out.mono (by show w.heap.size ≤ w6.heap.size; have := blk_lt H26.out; omega)))).trans (HB8.out.mono (by omega))
   exact ret_cell rfl rfl w.heap.size rfl (arr .u8 (bytesL [s0, s1, s2, s3, s4, s5, s6, s7])) 130 _ HBW9.out Try.underlying130 rfl (by rw [arr_size, HBL.out]; kernel_rfl) ⟨rfl, HUW9.out.below hbx (Nat.le_refl _)⟩
end Go.Proofs.Ytdbfclfglpbpmaa.Sha

namespace Go.Proofs.Ytdbfclfglpbpmaa.Sha
open Go.RowKit Go.Proofs.YtdbfclfglpbpmaaW.Hand Go.Proofs.YtdbfclfglpbpmaaW.PrintWords Go.Proofs.YtdbfclfglpbpmaaW.PrintLast Go.Proofs.YtdbfclfglpbpmaaW.PrintMore Go.Proofs.Ytdbfclfglpbpmaa.PF25F Go.Proofs.Ytdbfclfglpbpmaa.Base Go.Proofs.Ytdbfclfglpbpmaa.LF25F
set_option linter.unusedVariables false
set_option linter.unusedSimpArgs false

/-! ### what stands behind a text -/
def padL (n : Nat) : List Int := 128 :: (List.replicate ((64 - (n + 9) % 64) % 64) 0 ++ be 8 (8 * (n : Int)))
theorem padL_length (n : Nat) : (padL n).length = 9 + (64 - (n + 9) % 64) % 64 := by
  unfold padL
  rw [List.length_cons, List.length_append, List.length_replicate, be_length]
  omega
theorem padL_bytes (n : Nat) : Bytes (padL n) := by
  intro x hx
  rcases List.mem_cons.1 hx with rfl | hx
  · omega
  · rcases List.mem_append.1 hx with hx | hx
    · rw [List.mem_replicate] at hx
      omega
    · exact be_bytes 8 _ x hx
theorem Pad_l0 (n : Nat) (hn : n ≤ 1000000000000) : ∀ (d j : Nat), (64 - (n + 9) % 64) % 64 - j = d → j ≤ (64 - (n + 9) % 64) % 64 → Ev (fun k => sha_Pad.l0 k (n : Int) (128 :: List.replicate j 0)) (padL n) := by
  intro d
  induction d with
  | zero =>
    intro j hd hj
    have hl : (128 :: List.replicate j (0 : Int)).length = j + 1 := by simp
    have e1 : wrap64 (wrap64 ((n : Int) + ((j + 1 : Nat) : Int)) + 8) = ((n + j + 9 : Nat) : Int) := by rw [w64 (x := (n : Int) + ((j + 1 : Nat) : Int)) (by omega) (by omega), w64 (by omega) (by omega)]; omega
    have e2 : Int.tmod ((n + j + 9 : Nat) : Int) 64 = 0 := by rw [Int.tmod_eq_emod_of_nonneg (by omega)]; omega
    have e3 : IntKind.u64.wrap (IntKind.u64.wrap (n : Int) * 8) = 8 * (n : Int) := by rw [u64 (x := (n : Int)) (by omega) (by omega), u64 (by omega) (by omega)]; omega
    apply ev_succ
    simp only [sha_Pad.l0, hl, e1, e2, if_true, e3]
    refine ev_bind (Put_ev (8 * (n : Int)) 8 (by omega) (by omega)) ?_
    have e4 : putSpec (8 * (n : Int)) 8 = (be 8 (8 * (n : Int)), 0) := by
      unfold putSpec
      rw [if_neg (by omega), if_neg (by omega)]
      rfl
    rw [e4]
    simp only [be_length]
    rw [if_pos (by omega)]
    refine ev_eq (ev_some _) ?_
    unfold padL
    rw [show (64 - (n + 9) % 64) % 64 = j by omega]
    rfl
  | succ d ih =>
    intro j hd hj
    have hl : (128 :: List.replicate j (0 : Int)).length = j + 1 := by simp
    have e1 : wrap64 (wrap64 ((n : Int) + ((j + 1 : Nat) : Int)) + 8) = ((n + j + 9 : Nat) : Int) := by rw [w64 (x := (n : Int) + ((j + 1 : Nat) : Int)) (by omega) (by omega), w64 (by omega) (by omega)]; omega
    have e2 : ¬ Int.tmod ((n + j + 9 : Nat) : Int) 64 = 0 := by rw [Int.tmod_eq_emod_of_nonneg (by omega)]; omega
    apply ev_succ
    simp only [sha_Pad.l0, hl, e1, if_neg e2, if_pos (show j + 1 < 140737488355328 by omega)]
    have := ih (j + 1) (by omega) (by omega)
    rw [List.replicate_succ'] at this
    exact this
theorem Pad_ev (n : Nat) (hn : n ≤ 1000000000000) : Ev (fun k => sha_Pad.f k (n : Int)) (padL n) := by
  unfold sha_Pad.f
  have e : mx (n : Int) 0 = (n : Int) := by unfold mx; split <;> omega
  rw [e]
  exact Pad_l0 n hn ((64 - (n + 9) % 64) % 64) 0 (by omega) (by omega)
/-! ### a text eaten in two pieces -/
theorem eat_take (h a b : List Int) : ∀ (i : Nat), 64 * i ≤ a.length → eat h (a ++ b) i = eat h a i := by
  intro i
  induction i with
  | zero => exact fun _ => rfl
  | succ i ih =>
    intro hi
    rw [eat, eat, ih (by omega)]
    congr 1
    rw [List.drop_append_of_le_length (by omega), List.take_append_of_le_length (by rw [List.length_drop]; omega)]
theorem eat_add (h l : List Int) (i : Nat) : ∀ (j : Nat), eat h l (i + j) = eat (eat h l i) (l.drop (64 * i)) j := by
  intro j
  induction j with
  | zero => rfl
  | succ j ih =>
    rw [← Nat.add_assoc, eat, eat, ih, List.drop_drop]
    congr 3
    omega
theorem eat_more (h a b : List Int) : eat h (a ++ b) ((a ++ b).length / 64) = eat (eat h a (a.length / 64)) (a.drop (64 * (a.length / 64)) ++ b) ((a.drop (64 * (a.length / 64)) ++ b).length / 64) := by
  have e1 : (a.drop (64 * (a.length / 64)) ++ b).length = (a ++ b).length - 64 * (a.length / 64) := by
    rw [List.length_append, List.length_append, List.length_drop]
    omega
  have e2 : (a ++ b).length / 64 = a.length / 64 + ((a ++ b).length - 64 * (a.length / 64)) / 64 := by rw [List.length_append]; omega
  rw [e1, e2, eat_add, eat_take h a b _ (by omega), List.drop_append_of_le_length (by omega)]
theorem drop_more (a b : List Int) : (a.drop (64 * (a.length / 64)) ++ b).drop (64 * ((a.drop (64 * (a.length / 64)) ++ b).length / 64)) = (a ++ b).drop (64 * ((a ++ b).length / 64)) := by
  have e1 : (a.drop (64 * (a.length / 64)) ++ b).length = (a ++ b).length - 64 * (a.length / 64) := by
    rw [List.length_append, List.length_append, List.length_drop]
    omega
  rw [e1, ← List.drop_append_of_le_length (by omega), List.drop_drop]
  congr 1
  rw [List.length_append]
  omega
def shaL (b : List Int) : List Int := bytesL (eat FS (b ++ padL b.length) ((b ++ padL b.length).length / 64))
theorem shaL_length (b : List Int) : (shaL b).length = 32 := by unfold shaL; rw [bytesL_len, eat_length]; rfl
theorem shaL_bytes (b : List Int) : Bytes (shaL b) := bytesL_bytes _
/-- A Hash that has been given this text. -/
def HashOf (w : World) (base g : Nat) (all : List Int) : Prop :=
  ∃ A c, w.heap[g]? = some (.cells (hcells (eat FS all (all.length / 64)) (.slice A (all.drop (64 * (all.length / 64))).length c) (all.length : Int)) 217 (0, 0)) ∧ QB w base (.slice A (all.drop (64 * (all.length / 64))).length c) (all.drop (64 * (all.length / 64)))
theorem HashOf.new {w : World} {g : Nat} (h : w.heap[g]? = some (.cells (hcells FS (.slice none 0 0) 0) 217 (0, 0))) (base : Nat) : HashOf w base g [] := ⟨none, 0, h, QB.nil w base⟩
theorem HashOf.blk {w : World} {base g : Nat} {all : List Int} (h : HashOf w base g all) : ∃ cs, w.heap[g]? = some (.cells cs 217 (0, 0)) := by
  obtain ⟨A, c, h, _⟩ := h
  exact ⟨_, h⟩
theorem HashOf.lt {w : World} {base g : Nat} {all : List Int} (h : HashOf w base g all) : g < w.heap.size := by
  obtain ⟨cs, h⟩ := h.blk
  exact blk_lt h
theorem HashOf.below {w w' : World} {base g : Nat} {all : List Int} (h : HashOf w base g all) (hb : Below w.heap.size w w') : HashOf w' base g all := by
  obtain ⟨A, c, h1, h2⟩ := h
  exact ⟨A, c, (hb.block g (blk_lt h1)).trans h1, h2.below hb⟩
theorem HashOf.drewN {w : World} {base g : Nat} {all : List Int} (h : HashOf w base g all) (n : Nat) : HashOf (w.drewN n) base g all := h
/-- What is neither this Hash nor a row of bytes stays. -/
def Others (w w' : World) (g : Nat) : Prop := ∀ k cs t, k ≠ g → t ≠ 5 → w.heap[k]? = some (.cells cs t (0, 0)) → w'.heap[k]? = some (.cells cs t (0, 0))
theorem WriteH_calls (g : Nat) (all b : List Int) (A : Option Addr) (c base : Nat) (w : World) (hH : HashOf w base g all) (hbg : base ≤ g) (hbase : base ≤ w.heap.size) (hBa : Bytes all) (hC : Kd.C (Kd.int .u8) w A b.length b) (hcc : b.length ≤ c) (hBb : Bytes b) (hl : all.length + b.length ≤ 1000000000) :
    Calls Try.prog 125 #[.pointer (some ⟨g, 0, none⟩), .slice A b.length c] w fun e w' => e = .returned (.tuple #[]) ∧ HashOf w' base g (all ++ b) ∧ Below base w w' ∧ Others w w' g := by
  obtain ⟨A1, c1, h1, h2⟩ := hH
  have hdl : (all.drop (64 * (all.length / 64))).length ≤ all.length := by rw [List.length_drop]; omega
  refine (Write_calls g _ (by rw [eat_length]; rfl) _ (all.length : Int) (all.drop (64 * (all.length / 64))) b A c base w h1 hbg hbase h2 (fun x hx => hBa x (List.mem_of_mem_drop hx)) hC hcc hBb (by omega) (by omega) (by omega)).mono ?_
  rintro e w' ⟨v', rfl, e1, e2, e3, e4, e5⟩
  rw [← eat_more] at e1
  rw [drop_more] at e2
  obtain ⟨A', c', rfl, _⟩ := e2.slice
  refine ⟨rfl, ⟨A', c', ?_, e2⟩, e3, fun k cs t hk ht hb => ?_⟩
  · rw [e1]
    congr 3
    rw [List.length_append]
    omega
  · refine (e4.2 k (blk_lt hb) (fun hs => hs.elim hk (fun ho => ?_))).trans hb
    exact h2.ne hb ht ho
theorem SumH_calls (g : Nat) (all : List Int) (base : Nat) (w : World) (hH : HashOf w base g all) (hBa : Bytes all) (hl : all.length ≤ 1000000000) :
    Calls Try.prog 127 #[.pointer (some ⟨g, 0, none⟩)] w fun e w' => e = .returned (.agg (arr .u8 (shaL all))) ∧ Below w.heap.size w w' := by
  obtain ⟨A1, c1, h1, h2⟩ := hH
  have hdl : (all.drop (64 * (all.length / 64))).length ≤ all.length := by rw [List.length_drop]; omega
  obtain ⟨kp, hkp⟩ := (Pad_ev all.length (by omega)).rounds
  have := HSum_calls g _ (by rw [eat_length]; rfl) A1 c1 (all.length : Int) (all.drop (64 * (all.length / 64))) base w h1 h2 (fun x hx => hBa x (List.mem_of_mem_drop hx)) (by omega) (by omega) (by omega) (padL all.length) kp hkp (padL_bytes _) (by rw [padL_length]; omega)
  rw [← eat_more] at this
  exact this
set_option maxHeartbeats 8000000 in
set_option maxRecDepth 100000 in
theorem Sum_calls (A : Option Addr) (c : Nat) (b : List Int) (w : World) (hC : Kd.C (Kd.int .u8) w A b.length b) (hcc : b.length ≤ c) (hBb : Bytes b) (hl : b.length ≤ 1000000000) :
    Calls Try.prog 135 #[.slice A b.length c] w fun e w' => e = .returned (.agg (arr .u8 (shaL b))) ∧ Below w.heap.size w w' := by
  have HC := Aside0.mk hC
  have HBB := Aside0.mk hBb
  clear hC hBb
  go_enter Try.func135, Try.ntmps135
  go_wp2_with (first | ((with_reducible refine gate_dst (N := 2) rfl ?_); refine L_alloc rfl 130 rfl (.agg (arr .u8 (List.replicate 32 0))) 32 (by kernel_rfl) ?_; intro g2 w1 hb2 hg2 hs2 hl2; have HB2_ := Aside0.mk hb2; clear hb2; have HG2 := Aside0.mk hg2; clear hg2; have HS2 := Aside0.mk hs2; clear hs2; have HL2 := Aside0.mk hl2; clear hl2) | (go_at_call 124; refine (New_calls _).mono ?_; rintro e w2 ⟨g, rfl, hg, hgl, hb2⟩; have HH := Aside0.mk (HashOf.new hg w1.heap.size); have HG := Aside0.mk hg; clear hg; have HB2 := Aside0.mk hb2; clear hb2) | (go_at_call 125; refine (WriteH_calls g [] b A c w1.heap.size w2 HH.out hgl HB2.out.size (fun x hx => by cases hx) (Kd.C_below (Kd.C_below HC.out HL2.out) HB2.out) hcc HBB.out (by simp; omega)).mono ?_; rintro e w3 ⟨rfl, hh3, hb3, ho3⟩; rw [List.nil_append] at hh3; have HH3 := Aside0.mk hh3; clear hh3; have HB3 := Aside0.mk hb3; clear hb3; have HO3 := Aside0.mk ho3; clear ho3) | (go_at_call 127; refine (SumH_calls g b w1.heap.size w3 HH3.out HBB.out hl).mono ?_; rintro e w4 ⟨rfl, hb4⟩; have HB4 := Aside0.mk hb4; clear hb4) | (refine L_store rfl rfl 130 (.tmp 2) (.tmp 9) (by rfl) g2 (arr .u8 (shaL b)) (by rfl) (by rfl) (arr .u8 (List.replicate 32 0)) 130 ((HB4.out.block g2 (Nat.lt_of_lt_of_le (blk_lt HB2_.out) (Nat.le_trans HB2.out.size HB3.out.size))).trans ((HB3.out.block g2 (blk_lt HB2_.out)).trans ((HB2.out.block g2 (blk_lt HB2_.out)).trans HB2_.out))) (by rw [arr_size, arr_size, shaL_length]; rfl) (by rw [arr_size, shaL_length]; kernel_rfl) (arr_one _ _) ?_; intro w9 hbw9 huw9; have HBW9 := Aside0.mk hbw9; clear hbw9; have HUW9 := Aside0.mk huw9; clear huw9))
  exact ret_cell rfl rfl g2 rfl (arr .u8 (shaL b)) 130 _ HBW9.out Try.underlying130 rfl (by rw [arr_size, shaL_length]; kernel_rfl) ⟨rfl, HUW9.out.below (below_step (below_step HL2.out (HB2.out.trans HB3.out)) HB4.out) (Nat.le_of_eq HG2.out)⟩
end Go.Proofs.Ytdbfclfglpbpmaa.Sha

namespace Go.Proofs.Ytdbfclfglpbpmaa.Sha
open Go.RowKit Go.Proofs.YtdbfclfglpbpmaaW.Hand Go.Proofs.YtdbfclfglpbpmaaW.PrintWords Go.Proofs.YtdbfclfglpbpmaaW.PrintLast Go.Proofs.YtdbfclfglpbpmaaW.PrintMore Go.Proofs.Ytdbfclfglpbpmaa.PF25F Go.Proofs.Ytdbfclfglpbpmaa.Base Go.Proofs.Ytdbfclfglpbpmaa.LF25F
set_option linter.unusedVariables false
set_option linter.unusedSimpArgs false

/-! ### the reference agrees -/
def U32 (xs : List Int) : Prop := ∀ x ∈ xs, 0 ≤ x ∧ x ≤ 4294967295
theorem U32.rd {xs : List Int} (h : U32 xs) (i : Int) : 0 ≤ Go.Proofs.YtdbfclfglpbpmaaW.PrintWords.rd xs i ∧ Go.Proofs.YtdbfclfglpbpmaaW.PrintWords.rd xs i ≤ 4294967295 := by
  unfold Go.Proofs.YtdbfclfglpbpmaaW.PrintWords.rd
  rw [List.getD_eq_getElem?_getD]
  cases e : xs[i.toNat]? with
  | none => simp
  | some x => exact h x (List.mem_of_getElem? e)
theorem rot_eq {x : Int} (h0 : 0 ≤ x) (h1 : x ≤ 4294967295) (n : Nat) (hn : n < 32) : rot x n = rotS x n := by
  unfold rot
  rw [Rot_eq x n h0 h1 (by omega) (by omega)]
  have : ((n : Int) % 32).toNat = n := by omega
  rw [this]
  rfl
theorem refRot_ev' {x : Int} (h0 : 0 ≤ x) (h1 : x ≤ 4294967295) (n : Nat) (hn : n < 32) : Ev (fun k => batonref01_Rot.f k x (n : Int)) (rot x n) := by
  rw [rot_eq h0 h1 n hn]
  exact refRot_ev x n hn h0 h1
theorem refShr_l0 (n : Nat) (hn : n ≤ 31) : ∀ (d i : Nat) (x : Int), n - i = d → i ≤ n → 0 ≤ x → x ≤ 4294967295 → Ev (fun k => batonref02_shr.l0 k x (n : Int) (i : Int)) (x / 2 ^ (n - i)) := by
  intro d
  induction d with
  | zero =>
    intro i x hd hi h0 h1
    obtain rfl : i = n := by omega
    apply ev_succ
    simp only [batonref02_shr.l0, if_neg (show ¬ ((i : Int) < (i : Int)) by omega)]
    exact ev_eq (ev_some _) (by simp)
  | succ d ih =>
    intro i x hd hi h0 h1
    have hw : wrap64 ((i : Int) + 1) = ((i + 1 : Nat) : Int) := by rw [w64 (by omega) (by omega)]; omega
    have e : Int.tdiv x 2 % 4294967296 = x / 2 := by rw [Int.tdiv_eq_ediv_of_nonneg h0]; omega
    apply ev_succ
    simp only [batonref02_shr.l0, if_pos (show (i : Int) < (n : Int) by omega), hw, e]
    refine ev_eq (ih (i + 1) (x / 2) (by omega) (by omega) (by omega) (by omega)) ?_
    rw [show n - i = (n - (i + 1)) + 1 by omega, Int.pow_succ, Int.mul_comm, Int.ediv_ediv_of_nonneg (by omega)]
theorem refShr_ev {x : Int} (h0 : 0 ≤ x) (h1 : x ≤ 4294967295) (n : Nat) (hn : n ≤ 31) : Ev (fun k => batonref02_shr.f k x (n : Int)) (x / 2 ^ n) := by
  unfold batonref02_shr.f
  have := refShr_l0 n hn n 0 x (by omega) (by omega) h0 h1
  simpa using this
theorem refRots_ev {x : Int} (h0 : 0 ≤ x) (h1 : x ≤ 4294967295) (a b c : Nat) (ha : a < 32) (hb : b < 32) (hc : c < 32) : Ev (fun k => batonref02_rots.f k x (a : Int) (b : Int) (c : Int)) (xo (xo (rot x a) (rot x b)) (rot x c)) := by
  unfold batonref02_rots.f
  exact ev_bind (refRot_ev' h0 h1 a ha) (ev_bind (refRot_ev' h0 h1 b hb) (ev_bind (refRot_ev' h0 h1 c hc) (ev_some _)))
theorem U32.append {xs ys : List Int} (h : U32 xs) (k : U32 ys) : U32 (xs ++ ys) := fun x hx => (List.mem_append.1 hx).elim (h x) (k x)
theorem sched_u32 {l : List Int} (h : U32 l) (n : Nat) : U32 (sched l n) := by
  induction n with
  | zero => exact h
  | succ n ih =>
    refine ih.append (fun x hx => ?_)
    rw [List.mem_singleton] at hx
    subst hx
    unfold schedStep
    omega
theorem rnd_u32 {v : List Int} (h : U32 v) (k x : Int) : U32 (rnd v k x) := by
  unfold rnd
  split
  · rename_i a b c d e f g z
    intro y hy
    simp only [List.mem_cons, List.not_mem_nil, or_false] at hy
    rcases hy with rfl | rfl | rfl | rfl | rfl | rfl | rfl | rfl
    · omega
    · exact h _ (by simp)
    · exact h _ (by simp)
    · exact h _ (by simp)
    · omega
    · exact h _ (by simp)
    · exact h _ (by simp)
    · exact h _ (by simp)
  · exact h
theorem rnds_u32 (ks ws : List Int) {v : List Int} (h : U32 v) (n : Nat) : U32 (rnds ks ws v n) := by
  induction n with
  | zero => exact h
  | succ n ih => exact rnd_u32 ih _ _
theorem addW_u32 (h v : List Int) : U32 (addW h v) := by
  intro x hx
  unfold addW at hx
  obtain ⟨p, _, rfl⟩ := List.mem_map.1 hx
  omega
theorem not_u32 {x : Int} (h0 : 0 ≤ x) (h1 : x ≤ 4294967295) : xo IntKind.u32.max x = (4294967295 - x) % 4294967296 := by
  unfold xo
  rw [show IntKind.u32.max = 4294967295 from rfl]
  unfold Go.bits
  have e : (BitVec.ofInt IntKind.u32.bits 4294967295 ^^^ BitVec.ofInt IntKind.u32.bits x).toNat = 4294967295 - x.toNat := by
    show (BitVec.ofInt 32 4294967295 ^^^ BitVec.ofInt 32 x).toNat = 4294967295 - x.toNat
    rw [show BitVec.ofInt 32 4294967295 = BitVec.allOnes 32 by decide, BitVec.allOnes_xor, BitVec.toNat_not, BitVec.toNat_ofInt]
    omega
  simp only [e]
  rw [IntKind.wrap_u32]
  omega
theorem words_u32 : ∀ (b : List Int), Bytes b → U32 (wordsL b)
  | a :: b :: c :: d :: l, h => by
    intro x hx
    rw [wordsL] at hx
    rcases List.mem_cons.1 hx with rfl | hx
    · have ha := h a (by simp)
      have hb := h b (by simp)
      have hc := h c (by simp)
      have hd := h d (by simp)
      unfold unfour
      omega
    · exact words_u32 l (fun y hy => h y (by simp [hy])) x hx
  | [], _ => fun x hx => by simp [wordsL] at hx
  | [_], _ => fun x hx => by simp [wordsL] at hx
  | [_, _], _ => fun x hx => by simp [wordsL] at hx
  | [_, _, _], _ => fun x hx => by simp [wordsL] at hx
theorem words_at (b : List Int) (hb : Bytes b) (n : Nat) (hn : b.length = 4 * n) (i : Nat) (hi : i < n) : num ((b.take (4 * i + 4)).drop (4 * i)) = rd (wordsL b) (i : Int) ∧ 0 ≤ rd (wordsL b) (i : Int) ∧ rd (wordsL b) (i : Int) ≤ 4294967295 := by
  have hl := words_len n hn
  have e := bytes_words n hb hn
  have hu : U32 (wordsL b) := words_u32 b hb
  have hr := hu.rd (i : Int)
  refine ⟨?_, hr⟩
  have h2 := bytesL_at (wordsL b) i (by omega)
  rw [e] at h2
  rw [List.drop_take, show 4 * i + 4 - 4 * i = 4 by omega, h2, List.take_append_of_le_length (by rw [four_len]; omega), List.take_of_length_le (by rw [four_len]; omega)]
  rw [rd_lt (by omega)] at hr ⊢
  exact num_four hr.1 hr.2

theorem mod_sum6 (a b c d e f : Int) : (((((a + b) % 4294967296 + c) % 4294967296 + d) % 4294967296 + e) % 4294967296 + f % 4294967296) % 4294967296 = (a + b + c + d + e + f) % 4294967296 := by omega
theorem mod_sum5 (x a b c d e : Int) : (x + ((((a + b) % 4294967296 + c) % 4294967296 + d) % 4294967296 + e) % 4294967296) % 4294967296 = (x + (a + b + c + d + e)) % 4294967296 := by omega
theorem mod_sum4 (a b c d : Int) : (((a + b) % 4294967296 + c) % 4294967296 + d) % 4294967296 = (a + b + c + d) % 4294967296 := by omega
theorem refRounds_l2 (h ws : List Int) (hh : h.length = 8) (hw : ws.length = 64) (h0 : U32 h) : ∀ (d i : Nat) (v : List Int), 64 - i = d → i ≤ 64 → v.length = 8 → v = rnds KS ws h i →
    Ev (fun k => batonref02_Rounds.l2 k h ws (rd v 0) (rd v 1) (rd v 2) (rd v 3) (rd v 4) (rd v 5) (rd v 6) (rd v 7) KS (i : Int)) (addW h (rnds KS ws h 64)) := by
  intro d
  induction d with
  | zero =>
    intro i v hd hi hv hvs
    obtain rfl : i = 64 := by omega
    obtain ⟨a0, a1, a2, a3, a4, a5, a6, a7, rfl⟩ := eight hh
    obtain ⟨y0, y1, y2, y3, y4, y5, y6, y7, rfl⟩ := eight hv
    apply ev_succ
    rw [← hvs]
    exact ev_some _
  | succ d ih =>
    intro i v hd hi hv hvs
    have hi64 : i < 64 := by omega
    have hu : U32 v := by rw [hvs]; exact rnds_u32 _ _ h0 _
    have hnext : rnd v (rd KS (i : Int)) (rd ws (i : Int)) = rnds KS ws h (i + 1) := by rw [hvs]; rfl
    obtain ⟨a, b, c, d', e, f, g, z, rfl⟩ := eight hv
    have hue := hu e (by simp)
    have hua := hu a (by simp)
    have hws : wrap64 ((i : Int) + 1) = ((i + 1 : Nat) : Int) := by rw [w64 (by omega) (by omega)]; omega
    have := ih (i + 1) _ (by omega) (by omega) (by rw [rnd_length]; exact hv) hnext
    clear ih hnext hvs hu hd hi hh h0
    apply ev_succ
    have r0 : ∀ p q r s t u v w : Int, rd [p, q, r, s, t, u, v, w] 0 = p := fun _ _ _ _ _ _ _ _ => rfl
    have r1 : ∀ p q r s t u v w : Int, rd [p, q, r, s, t, u, v, w] 1 = q := fun _ _ _ _ _ _ _ _ => rfl
    have r2 : ∀ p q r s t u v w : Int, rd [p, q, r, s, t, u, v, w] 2 = r := fun _ _ _ _ _ _ _ _ => rfl
    have r3 : ∀ p q r s t u v w : Int, rd [p, q, r, s, t, u, v, w] 3 = s := fun _ _ _ _ _ _ _ _ => rfl
    have r4 : ∀ p q r s t u v w : Int, rd [p, q, r, s, t, u, v, w] 4 = t := fun _ _ _ _ _ _ _ _ => rfl
    have r5 : ∀ p q r s t u v w : Int, rd [p, q, r, s, t, u, v, w] 5 = u := fun _ _ _ _ _ _ _ _ => rfl
    have r6 : ∀ p q r s t u v w : Int, rd [p, q, r, s, t, u, v, w] 6 = v := fun _ _ _ _ _ _ _ _ => rfl
    have r7 : ∀ p q r s t u v w : Int, rd [p, q, r, s, t, u, v, w] 7 = w := fun _ _ _ _ _ _ _ _ => rfl
    simp only [batonref02_Rounds.l2, if_pos (show (i : Int) < 64 by omega), r0, r1, r2, r3, r4, r5, r6, r7]
    refine ev_bind (refRots_ev hue.1 hue.2 6 11 25 (by omega) (by omega) (by omega)) ?_
    rw [show (KS.length : Int) = 64 from rfl, show (ws.length : Int) = 64 by omega]
    simp only [if_pos (show (0 : Int) ≤ (i : Int) by omega), if_pos (show (i : Int) < 64 by omega)]
    refine ev_bind (refRots_ev hua.1 hua.2 2 13 22 (by omega) (by omega) (by omega)) ?_
    rw [hws]
    rw [show (rnd [a, b, c, d', e, f, g, z] (rd KS (i : Int)) (rd ws (i : Int))) = [(tt e f g z (rd KS (i : Int)) (rd ws (i : Int)) + uu a b c) % 4294967296, a, b, c, (d' + tt e f g z (rd KS (i : Int)) (rd ws (i : Int))) % 4294967296, e, f, g] from rfl] at this
    simp only [r0, r1, r2, r3, r4, r5, r6, r7, tt, uu, S1, S0, ch, maj, not_u32 hue.1 hue.2] at this
    simp only [mod_sum6, mod_sum5]
    simp only [xo, an] at this ⊢
    exact this
theorem refRounds_l1 (h l : List Int) (hh : h.length = 8) (hl : l.length = 16) (h0 : U32 h) (h1 : U32 l) : ∀ (d i : Nat), 48 - i = d → i ≤ 48 →
    Ev (fun k => batonref02_Rounds.l1 k h (sched l i) ((16 + i : Nat) : Int)) (comp h l) := by
  intro d
  induction d with
  | zero =>
    intro i hd hi
    obtain rfl : i = 48 := by omega
    apply ev_succ
    have hh8 : (h.length : Int) = 8 := by omega
    simp only [batonref02_Rounds.l1, if_neg (show ¬ (((16 + 48 : Nat) : Int) < 64) by omega), hh8, if_pos (show (0 : Int) < 8 by omega), if_pos (show (1 : Int) < 8 by omega), if_pos (show (2 : Int) < 8 by omega), if_pos (show (3 : Int) < 8 by omega), if_pos (show (4 : Int) < 8 by omega), if_pos (show (5 : Int) < 8 by omega), if_pos (show (6 : Int) < 8 by omega), if_pos (show (7 : Int) < 8 by omega)]
    refine ev_bind1 (a := KS) rfl ?_
    exact refRounds_l2 h (sched l 48) hh (by rw [sched_length, hl]) h0 64 0 h (by omega) (by omega) hh rfl
  | succ d ih =>
    intro i hd hi
    have hsl : (sched l i).length = 16 + i := by rw [sched_length, hl]
    have hu := sched_u32 h1 i
    have ih' := ih (i + 1) (by omega) (by omega)
    rw [sched] at ih'
    clear ih
    generalize sched l i = S at hsl hu ih' ⊢
    have hsI : (S.length : Int) = ((16 + i : Nat) : Int) := by omega
    have hstep : schedStep S = (rd S ((i : Nat) : Int) + sg0 (rd S ((i + 1 : Nat) : Int)) + rd S ((i + 9 : Nat) : Int) + sg1 (rd S ((i + 14 : Nat) : Int))) % 4294967296 := by
      unfold schedStep
      rw [show S.length - 16 = i by omega, show S.length - 15 = i + 1 by omega, show S.length - 7 = i + 9 by omega, show S.length - 2 = i + 14 by omega]
    rw [hstep] at ih'
    clear hstep
    have cc0 : ((16 + i : Nat) : Int) < 64 := by omega
    have cc1 : (0 : Int) ≤ ((i + 1 : Nat) : Int) := by omega
    have cc2 : ((i + 1 : Nat) : Int) < ((16 + i : Nat) : Int) := by omega
    have cc3 : (0 : Int) ≤ ((i + 14 : Nat) : Int) := by omega
    have cc4 : ((i + 14 : Nat) : Int) < ((16 + i : Nat) : Int) := by omega
    have cc5 : (0 : Int) ≤ ((i : Nat) : Int) := by omega
    have cc6 : ((i : Nat) : Int) < ((16 + i : Nat) : Int) := by omega
    have cc7 : (0 : Int) ≤ ((i + 9 : Nat) : Int) := by omega
    have cc8 : ((i + 9 : Nat) : Int) < ((16 + i : Nat) : Int) := by omega
    have cc9 : S.length < 35184372088832 := by omega
    have w15 : wrap64 (((16 + i : Nat) : Int) - 15) = ((i + 1 : Nat) : Int) := by rw [w64 (by omega) (by omega)]; omega
    have w2 : wrap64 (((16 + i : Nat) : Int) - 2) = ((i + 14 : Nat) : Int) := by rw [w64 (by omega) (by omega)]; omega
    have w16 : wrap64 (((16 + i : Nat) : Int) - 16) = ((i : Nat) : Int) := by rw [w64 (by omega) (by omega)]; omega
    have w7 : wrap64 (((16 + i : Nat) : Int) - 7) = ((i + 9 : Nat) : Int) := by rw [w64 (by omega) (by omega)]; omega
    have hws : wrap64 (((16 + i : Nat) : Int) + 1) = ((16 + (i + 1) : Nat) : Int) := by rw [w64 (by omega) (by omega)]; omega
    have u15 := hu.rd ((i + 1 : Nat) : Int)
    have u2 := hu.rd ((i + 14 : Nat) : Int)
    apply ev_succ
    simp only [batonref02_Rounds.l1, if_pos cc0, w15, w2, w16, w7, hws, hsI, if_pos cc1, if_pos cc2, if_pos cc3, if_pos cc4, if_pos cc5, if_pos cc6, if_pos cc7, if_pos cc8, if_pos cc9]
    refine ev_bind (refRot_ev' u15.1 u15.2 7 (by decide)) ?_
    refine ev_bind (refRot_ev' u15.1 u15.2 18 (by decide)) ?_
    refine ev_bind (refShr_ev u15.1 u15.2 3 (by decide)) ?_
    refine ev_bind (refRot_ev' u2.1 u2.2 17 (by decide)) ?_
    refine ev_bind (refRot_ev' u2.1 u2.2 19 (by decide)) ?_
    refine ev_bind (refShr_ev u2.1 u2.2 10 (by decide)) ?_
    simp only [mod_sum4]
    exact ih'
theorem refRounds_l0 (h b : List Int) (hh : h.length = 8) (hb : Bytes b) (h64 : b.length = 64) (h0 : U32 h) : ∀ (d i : Nat), 16 - i = d → i ≤ 16 →
    Ev (fun k => batonref02_Rounds.l0 k h b ((wordsL b).take i) (i : Int)) (cmpB h b) := by
  have hl := words_len 16 (b := b) (by omega)
  intro d
  induction d with
  | zero =>
    intro i hd hi
    obtain rfl : i = 16 := by omega
    apply ev_succ
    simp only [batonref02_Rounds.l0, if_neg (show ¬ (((16 : Nat) : Int) < 16) by omega)]
    rw [List.take_of_length_le (by omega)]
    exact refRounds_l1 h (wordsL b) hh hl h0 (words_u32 b hb) 48 0 (by omega) (by omega)
  | succ d ih =>
    intro i hd hi
    have hlt : i < 16 := by omega
    have w4 : wrap64 (4 * (i : Int)) = ((4 * i : Nat) : Int) := by rw [w64 (by omega) (by omega)]; omega
    have w8 : wrap64 (((4 * i : Nat) : Int) + 4) = ((4 * i + 4 : Nat) : Int) := by rw [w64 (by omega) (by omega)]; omega
    have hws : wrap64 ((i : Int) + 1) = ((i + 1 : Nat) : Int) := by rw [w64 (by omega) (by omega)]; omega
    obtain ⟨e1, e2, e3⟩ := words_at b hb 16 (by omega) i hlt
    have htl : ((wordsL b).take i).length = i := by rw [List.length_take]; omega
    apply ev_succ
    simp only [batonref02_Rounds.l0, if_pos (show (i : Int) < 16 by omega), w4, w8, hws, Int.toNat_natCast, if_pos (show (0 : Int) ≤ ((4 * i : Nat) : Int) by omega), if_pos (show ((4 * i : Nat) : Int) ≤ ((4 * i + 4 : Nat) : Int) by omega), if_pos (show ((4 * i + 4 : Nat) : Int) ≤ (b.length : Int) by omega), htl, if_pos (show i < 35184372088832 by omega)]
    refine ev_bind (refGet_ev _ (fun x hx => hb x (List.mem_of_mem_take (List.mem_of_mem_drop hx))) (by rw [List.length_drop, List.length_take]; omega)) ?_
    rw [e1]
    have e4 : (wordsL b).take i ++ [rd (wordsL b) (i : Int) % 4294967296] = (wordsL b).take (i + 1) := by
      rw [List.take_succ_eq_append_getElem (by omega), ← rd_lt (by omega), Int.emod_eq_of_lt e2 (by omega)]
    rw [e4]
    exact ih (i + 1) (by omega) (by omega)
theorem refRounds_ev (h b : List Int) (hh : h.length = 8) (hb : Bytes b) (h64 : b.length = 64) (h0 : U32 h) : Ev (fun k => batonref02_Rounds.f k h b) (cmpB h b) := by
  unfold batonref02_Rounds.f
  exact refRounds_l0 h b hh hb h64 h0 16 0 (by omega) (by omega)
end Go.Proofs.Ytdbfclfglpbpmaa.Sha

namespace Go.Proofs.Ytdbfclfglpbpmaa.Sha
open Go.RowKit Go.Proofs.YtdbfclfglpbpmaaW.Hand Go.Proofs.YtdbfclfglpbpmaaW.PrintWords Go.Proofs.YtdbfclfglpbpmaaW.PrintLast Go.Proofs.YtdbfclfglpbpmaaW.PrintMore Go.Proofs.Ytdbfclfglpbpmaa.PF25F Go.Proofs.Ytdbfclfglpbpmaa.Base Go.Proofs.Ytdbfclfglpbpmaa.LF25F
set_option linter.unusedVariables false
set_option linter.unusedSimpArgs false

theorem refPad_l2 (x3 : List Int) (n : Nat) (hn : n ≤ 8000000000000) (i : Nat) (hi : i ≤ 7) (hl : x3.length ≤ 1000) : ∀ (d j : Nat), i - j = d → j ≤ i → ∀ r, Ev (fun k => batonref02_Pad.l1 k (x3 ++ [(n : Int) / 2 ^ (8 * i) % 256]) (n : Int) ((i : Int) - 1)) r →
    Ev (fun k => batonref02_Pad.l2 k x3 (n : Int) (i : Int) ((n : Int) / 2 ^ (8 * j)) (j : Int)) r := by
  intro d
  induction d with
  | zero =>
    intro j hd hj r hr
    obtain rfl : j = i := by omega
    have h0 : 0 ≤ (n : Int) / 2 ^ (8 * j) := Int.ediv_nonneg (by omega) (by have := pow2_pos (8 * j); omega)
    have e : Int.tmod ((n : Int) / 2 ^ (8 * j)) 256 % 256 = (n : Int) / 2 ^ (8 * j) % 256 := by rw [Int.tmod_eq_emod_of_nonneg h0]; omega
    have hw : wrap64 ((j : Int) - 1) = (j : Int) - 1 := by rw [w64 (by omega) (by omega)]
    apply ev_succ
    simp only [batonref02_Pad.l2, if_neg (show ¬ ((j : Int) < (j : Int)) by omega), if_pos (show x3.length < 140737488355328 by omega), e, hw]
    exact hr
  | succ d ih =>
    intro j hd hj r hr
    have h0 : 0 ≤ (n : Int) / 2 ^ (8 * j) := Int.ediv_nonneg (by omega) (by have := pow2_pos (8 * j); omega)
    have h1 : (n : Int) / 2 ^ (8 * j) ≤ (n : Int) := Int.ediv_le_self _ (by omega)
    have e : IntKind.u64.wrap (Int.tdiv ((n : Int) / 2 ^ (8 * j)) 256) = (n : Int) / 2 ^ (8 * (j + 1)) := by
      rw [Int.tdiv_eq_ediv_of_nonneg h0, u64 (by omega) (by omega), show 8 * (j + 1) = 8 * j + 8 by omega, Int.pow_add, ← Int.ediv_ediv_of_nonneg (by have := pow2_pos (8 * j); omega)]
      rfl
    have hw : wrap64 ((j : Int) + 1) = ((j + 1 : Nat) : Int) := by rw [w64 (by omega) (by omega)]; omega
    apply ev_succ
    simp only [batonref02_Pad.l2, if_pos (show (j : Int) < (i : Int) by omega), e, hw]
    exact ih (j + 1) (by omega) (by omega) r hr
theorem refPad_l1 (n : Nat) (hn : n ≤ 8000000000000) : ∀ (s : Nat) (x3 : List Int), s ≤ 8 → x3.length + s ≤ 1000 → Ev (fun k => batonref02_Pad.l1 k x3 (n : Int) ((s : Int) - 1)) (x3 ++ be s (n : Int)) := by
  intro s
  induction s with
  | zero =>
    intro x3 _ _
    apply ev_succ
    simp only [batonref02_Pad.l1]
    exact ev_eq (ev_some _) (by simp [be])
  | succ s ih =>
    intro x3 hs hl
    apply ev_succ
    simp only [batonref02_Pad.l1]
    rw [show ((s + 1 : Nat) : Int) - 1 = (s : Int) by omega]
    simp only [ge_iff_le, if_pos (show (0 : Int) ≤ (s : Int) by omega)]
    have := refPad_l2 x3 n hn s (by omega) (by omega) s 0 (by omega) (by omega) _ (ih (x3 ++ [(n : Int) / 2 ^ (8 * s) % 256]) (by omega) (by rw [List.length_append, List.length_singleton]; omega))
    rw [show 8 * 0 = 0 from rfl, Int.pow_zero, Int.ediv_one] at this
    refine ev_eq this ?_
    rw [List.append_assoc]
    rfl
theorem refPad_l0 (n : Nat) (hn : n ≤ 1000000000000) : ∀ (d j : Nat), (64 - (n + 9) % 64) % 64 - j = d → j ≤ (64 - (n + 9) % 64) % 64 → Ev (fun k => batonref02_Pad.l0 k (n : Int) (128 :: List.replicate j 0)) (padL n) := by
  intro d
  induction d with
  | zero =>
    intro j hd hj
    have hl : (128 :: List.replicate j (0 : Int)).length = j + 1 := by simp
    have hj64 : j < 64 := by omega
    have e0 : (64 - (n + 9) % 64) % 64 = j := by omega
    have e1 : wrap64 ((n : Int) + ((j + 1 : Nat) : Int)) = ((n + j + 1 : Nat) : Int) := by rw [w64 (by omega) (by omega)]; omega
    have e2 : Int.tmod ((n + j + 1 : Nat) : Int) 64 = 56 := by rw [Int.tmod_eq_emod_of_nonneg (by omega)]; omega
    have e3 : IntKind.u64.wrap (IntKind.u64.wrap (n : Int) * 8) = ((8 * n : Nat) : Int) := by rw [u64 (x := (n : Int)) (by omega) (by omega), u64 (by omega) (by omega)]; omega
    apply ev_succ
    simp only [batonref02_Pad.l0, hl, e1, e2, if_true, e3]
    have := refPad_l1 (8 * n) (by omega) 8 (128 :: List.replicate j 0) (by omega) (by rw [hl]; omega)
    refine ev_eq this ?_
    unfold padL
    rw [e0, show ((8 * n : Nat) : Int) = 8 * (n : Int) by omega]
    rfl
  | succ d ih =>
    intro j hd hj
    have hl : (128 :: List.replicate j (0 : Int)).length = j + 1 := by simp
    have hj64 : j + 1 < 140737488355328 := by omega
    have e1 : wrap64 ((n : Int) + ((j + 1 : Nat) : Int)) = ((n + j + 1 : Nat) : Int) := by rw [w64 (by omega) (by omega)]; omega
    have e2 : ¬ Int.tmod ((n + j + 1 : Nat) : Int) 64 = 56 := by rw [Int.tmod_eq_emod_of_nonneg (by omega)]; omega
    have := ih (j + 1) (by omega) (by omega)
    rw [List.replicate_succ'] at this
    apply ev_succ
    simp only [batonref02_Pad.l0, hl, e1, if_neg e2, if_pos hj64]
    exact this
theorem refPad_ev (n : Nat) (hn : n ≤ 1000000000000) : Ev (fun k => batonref02_Pad.f k (n : Int)) (padL n) := by
  unfold batonref02_Pad.f
  exact refPad_l0 n hn ((64 - (n + 9) % 64) % 64) 0 (by omega) (by omega)
theorem FS_u32 : U32 FS := by
  unfold U32 FS
  decide
theorem eat_u32 (l : List Int) (i : Nat) : U32 (eat FS l i) := by
  cases i with
  | zero => exact FS_u32
  | succ i => exact addW_u32 _ _
theorem tdm {x : Int} (h0 : 0 ≤ x) (h1 : x ≤ 4294967295) (d : Int) (hd : 0 < d) : Int.tdiv x d % 4294967296 % 256 = x / d % 256 := by
  rw [Int.tdiv_eq_ediv_of_nonneg h0]
  have e1 : 0 ≤ x / d := Int.ediv_nonneg h0 (by omega)
  have e2 : x / d ≤ x := Int.ediv_le_self d h0
  omega
theorem tmm {x : Int} (h0 : 0 ≤ x) : Int.tmod x 256 % 256 = x % 256 := by
  rw [Int.tmod_eq_emod_of_nonneg h0]
  omega
theorem refSum_l1 (h : List Int) (hh : h.length = 8) (h0 : U32 h) : ∀ (d j : Nat), 8 - j = d → j ≤ 8 → Ev (fun k => batonref02_Sum.l1 k h (bytesL (h.take j)) (j : Int)) (bytesL h) := by
  intro d
  induction d with
  | zero =>
    intro j hd hj
    obtain rfl : j = 8 := by omega
    apply ev_succ
    simp only [batonref02_Sum.l1, if_neg (show ¬ (((8 : Nat) : Int) < 8) by omega)]
    rw [List.take_of_length_le (by omega)]
    exact ev_some _
  | succ d ih =>
    intro j hd hj
    have hlt : j < h.length := by omega
    have hx := h0.rd (j : Int)
    have hr := rd_lt hlt
    have hbl : (bytesL (h.take j)).length = 4 * j := by rw [bytesL_len, List.length_take]; omega
    have cc0 : (j : Int) < 8 := by omega
    have cc1 : (0 : Int) ≤ (j : Int) := by omega
    have cc2 : (j : Int) < (h.length : Int) := by omega
    have e : bytesL (h.take j) ++ [rd h (j : Int) / 16777216 % 256, rd h (j : Int) / 65536 % 256, rd h (j : Int) / 256 % 256, rd h (j : Int) % 256] = bytesL (h.take (j + 1)) := by
      rw [List.take_succ_eq_append_getElem hlt, ← hr]
      unfold bytesL
      rw [List.flatMap_append]
      rfl
    have cl : (bytesL (h.take j)).length + [rd h (j : Int) / 16777216 % 256, rd h (j : Int) / 65536 % 256, rd h (j : Int) / 256 % 256, rd h (j : Int) % 256].length < 140737488355328 := by rw [hbl]; simp; omega
    have hw : wrap64 ((j : Int) + 1) = ((j + 1 : Nat) : Int) := by rw [w64 (by omega) (by omega)]; omega
    have t1 := tdm hx.1 hx.2 16777216 (by omega)
    have t2 := tdm hx.1 hx.2 65536 (by omega)
    have t3 := tdm hx.1 hx.2 256 (by omega)
    have t4 := tmm hx.1
    apply ev_succ
    simp only [batonref02_Sum.l1, if_pos cc0, if_pos cc1, if_pos cc2, t1, t2, t3, t4, Option.bind_some, if_pos cl, e, hw]
    exact ih (j + 1) (by omega) (by omega)
theorem refSum_l0 (all : List Int) (hb : Bytes all) (m : Nat) (hm : all.length = 64 * m) (hl : all.length ≤ 1000000000000) : ∀ (d j : Nat), m - j = d → j ≤ m → Ev (fun k => batonref02_Sum.l0 k all (eat FS all j) ((64 * j : Nat) : Int)) (bytesL (eat FS all m)) := by
  intro d
  induction d with
  | zero =>
    intro j hd hj
    obtain rfl : j = m := by omega
    have cc : ¬ (((64 * j : Nat) : Int) < (all.length : Int)) := by omega
    apply ev_succ
    simp only [batonref02_Sum.l0, if_neg cc]
    exact refSum_l1 _ (by rw [eat_length]; rfl) (eat_u32 _ _) 8 0 (by omega) (by omega)
  | succ d ih =>
    intro j hd hj
    have cc0 : ((64 * j : Nat) : Int) < (all.length : Int) := by omega
    have cc1 : (0 : Int) ≤ ((64 * j : Nat) : Int) := by omega
    have cc2 : ((64 * j : Nat) : Int) ≤ ((64 * j + 64 : Nat) : Int) := by omega
    have cc3 : ((64 * j + 64 : Nat) : Int) ≤ (all.length : Int) := by omega
    have hdt : (all.take (64 * j + 64)).drop (64 * j) = (all.drop (64 * j)).take 64 := by rw [List.drop_take]; congr 1; omega
    have hlen : ((all.drop (64 * j)).take 64).length = 64 := by rw [List.length_take, List.length_drop]; omega
    have hw : wrap64 (((64 * j : Nat) : Int) + 64) = ((64 * j + 64 : Nat) : Int) := by rw [w64 (by omega) (by omega)]; omega
    apply ev_succ
    simp only [batonref02_Sum.l0, if_pos cc0, if_pos cc1, hw, if_pos cc2, if_pos cc3, Int.toNat_natCast, hdt]
    refine ev_bind (refRounds_ev _ _ (by rw [eat_length]; rfl) (fun x hx => hb x (List.mem_of_mem_drop (List.mem_of_mem_take hx))) hlen (eat_u32 _ _)) ?_
    exact ih (j + 1) (by omega) (by omega)
theorem refSum_ev (b : List Int) (hb : Bytes b) (hl : b.length ≤ 100000000000) : Ev (fun k => batonref02_Sum.f k b) (shaL b) := by
  unfold batonref02_Sum.f
  have hp := padL_length b.length
  have c1 : ([] : List Int).length + b.length < 140737488355328 := by simp; omega
  have c2 : b.length + (padL b.length).length < 140737488355328 := by omega
  simp only [Option.bind_some, if_pos c1]
  refine ev_bind (refPad_ev b.length (by omega)) ?_
  simp only [List.nil_append, if_pos c2]
  refine ev_bind1 (a := FS) rfl ?_
  have hal : (b ++ padL b.length).length = 64 * ((b ++ padL b.length).length / 64) := by rw [List.length_append, hp]; omega
  exact refSum_l0 (b ++ padL b.length) (hb.append (padL_bytes _)) _ hal (by rw [List.length_append, hp]; omega) ((b ++ padL b.length).length / 64) 0 (by omega) (by omega)
end Go.Proofs.Ytdbfclfglpbpmaa.Sha

namespace Go.Proofs.Ytdbfclfglpbpmaa.Sha
open Go.RowKit Go.Proofs.YtdbfclfglpbpmaaW.Hand Go.Proofs.YtdbfclfglpbpmaaW.PrintWords Go.Proofs.YtdbfclfglpbpmaaW.PrintLast Go.Proofs.YtdbfclfglpbpmaaW.PrintMore Go.Proofs.Ytdbfclfglpbpmaa.PF25F Go.Proofs.Ytdbfclfglpbpmaa.Base Go.Proofs.Ytdbfclfglpbpmaa.LF25F
set_option linter.unusedVariables false
set_option linter.unusedSimpArgs false

theorem all_rd (xs ys : List Int) : ∀ (n : Nat), xs.length = n → ys.length = n → (List.range' 0 n 1).all (fun i => rd xs (i : Nat) == rd ys (i : Nat)) = decide (xs = ys) := by
  intro n hx hy
  rw [Bool.eq_iff_iff, List.all_eq_true, decide_eq_true_iff]
  constructor
  · intro h
    refine List.ext_getElem (by omega) (fun i h1 h2 => ?_)
    have := h i (by rw [List.mem_range'_1]; omega)
    rw [rd_lt h1, rd_lt h2] at this
    simpa using this
  · rintro rfl i _
    simp
/-- '==' of two arrays of whole numbers. -/
theorem run_equalIn_arr {P : Program} (w : World) (d : Nat) (t e : TypeId) (n : Nat) (k : IntKind) (ht : P.underlying t = some (.array n e)) (he : P.underlying e = some (.int k)) (hsz : (P.info? e).map (·.size) = some 1)
    (xs ys : List Int) (hx : xs.length = n) (hy : ys.length = n) : (Op.equalIn (d + 2) t (.agg (arr k xs)) (.agg (arr k ys))).run P w = .ok (decide (xs = ys)) w := by
  have hsz' : ∀ w, (sizeOf e).run P w = .ok 1 w := by
    intro w
    cases hq : P.info? e with
    | none => simp [hq] at hsz
    | some i =>
      have : i.size = 1 := by simpa [hq] using hsz
      simp [sizeOf, typeInfo, hq, this]
  rw [← all_rd xs ys n hx hy, Op.equalIn]
  simp only [Sem.run_bind, run_underlying ht, Result.andThen_ok, hsz', Std.Legacy.Range.forIn_eq_forIn_range', Std.Legacy.Range.size, Nat.sub_zero, Nat.add_sub_cancel, Nat.div_one]
  have hl : ∀ i ∈ List.range' 0 n 1, i < n := fun i hi => by simpa using (List.mem_range'_1.1 hi).2
  generalize List.range' 0 n 1 = l at hl ⊢
  induction l with
  | nil => simp
  | cons i l ih =>
    have hi : i < n := hl i (by simp)
    have px : (part e (arr k xs) (i * 1)).run P w = .ok (.int k (rd xs (i : Nat))) w := by
      have := arr_get k xs i (by omega)
      simp [part, isAgg, run_underlying he, this]
    have py : (part e (arr k ys) (i * 1)).run P w = .ok (.int k (rd ys (i : Nat))) w := by
      have := arr_get k ys i (by omega)
      simp [part, isAgg, run_underlying he, this]
    have pe : (Op.equalIn (d + 1) e (.int k (rd xs (i : Nat))) (.int k (rd ys (i : Nat)))).run P w = .ok (rd xs (i : Nat) == rd ys (i : Nat)) w := run_equalIn_int w d e k k _ _ he
    have ih' := ih (fun j hj => hl j (by simp [hj]))
    simp only [List.forIn_cons, Sem.run_bind, px, py, pe, Result.andThen_ok, List.all_cons]
    cases hb : (rd xs (i : Nat) == rd ys (i : Nat)) with
    | true => simpa using ih'
    | false => simp
theorem C_arr {k : IntKind} {w : World} {g t : Nat} {xs : List Int} (hb : w.heap[g]? = some (.cells (arr k xs) t (0, 0))) (hl : xs.length ≤ 1000000) : Kd.C (Kd.int k) w (some ⟨g, 0, none⟩) xs.length xs := by
  refine ⟨rfl, by omega, fun hp => ⟨_, rfl, fun j p hj => ⟨[.int k p], rfl, rfl, fun i u hu => ?_⟩⟩⟩
  have hi : i = 0 := by
    have := (List.getElem?_eq_some_iff.1 hu).1
    simp at this
    omega
  subst hi
  have e : Value.int k p = u := by simpa using hu
  subst e
  rw [show (Kd.int k).sz = 1 from rfl, Nat.mul_one, Nat.add_zero, add_plain, blk_cell hb j]
  unfold arr
  rw [List.getElem?_toArray, List.getElem?_map, hj]
  rfl
/-- A row of bytes that was handed back new. -/
def NewRow (w w' : World) (e : Ending) (xs : List Int) : Prop := ∃ A c, e = .returned (.slice A xs.length c) ∧ xs.length ≤ c ∧ Kd.C (Kd.int .u8) w' A xs.length xs ∧ Below w.heap.size w w'
theorem newRow_of {w w' : World} {e : Ending} {xs : List Int} {ok : Nat → Prop} (h : ∃ v0_ : Value, e = .returned v0_ ∧ Kd.R (Kd.int .u8) 5 w' w.heap.size ok v0_ xs ∧ Below w.heap.size w w') : NewRow w w' e xs := by
  obtain ⟨v, rfl, hr, hb⟩ := h
  obtain ⟨A, c, rfl, hl, hc⟩ := Kd.R_reads hr
  exact ⟨A, c, rfl, hl, hc, hb⟩
theorem refSum_calls (A : Option Addr) (c : Nat) (b : List Int) (w : World) (hC : Kd.C (Kd.int .u8) w A b.length b) (hcc : b.length ≤ c) (hb : Bytes b) (hl : b.length ≤ 1000000000) : Calls Try.prog 111 #[.slice A b.length c] w fun e w' => NewRow w w' e (shaL b) := by
  obtain ⟨k, hk⟩ := (refSum_ev b hb (by omega)).rounds
  exact (batonref02_Sum.calls k A c b _ w hC hcc hk).mono fun e w' h => newRow_of h
end Go.Proofs.Ytdbfclfglpbpmaa.Sha

namespace Go.Proofs.Ytdbfclfglpbpmaa.Sha
open Go.RowKit Go.Proofs.YtdbfclfglpbpmaaW.Hand Go.Proofs.YtdbfclfglpbpmaaW.PrintWords Go.Proofs.YtdbfclfglpbpmaaW.PrintLast Go.Proofs.YtdbfclfglpbpmaaW.PrintMore Go.Proofs.Ytdbfclfglpbpmaa.PF25F Go.Proofs.Ytdbfclfglpbpmaa.Base Go.Proofs.Ytdbfclfglpbpmaa.LF25F
set_option linter.unusedVariables false
set_option linter.unusedSimpArgs false

/-! ### hmac -/
def fitL (k : List Int) : List Int := k ++ List.replicate (64 - k.length) 0
def ownL (key : List Int) : List Int := fitL (if key.length > 64 then shaL key else key)
theorem fitL_length (k : List Int) (h : k.length ≤ 64) : (fitL k).length = 64 := by unfold fitL; rw [List.length_append, List.length_replicate]; omega
theorem ownL_length (key : List Int) : (ownL key).length = 64 := by
  unfold ownL
  split
  · exact fitL_length _ (by rw [shaL_length]; omega)
  · exact fitL_length _ (by omega)
theorem splice_fit (k : List Int) (h : k.length ≤ 64) : (splice (List.replicate 64 (Value.int .u8 0)) 0 (k.map (Value.int .u8))).toArray = arr .u8 (fitL k) := by
  unfold splice arr fitL
  rw [List.take_zero, List.nil_append, Nat.zero_add, List.drop_replicate, List.length_map, List.map_append, List.map_replicate]
set_option maxHeartbeats 8000000 in
set_option maxRecDepth 100000 in
theorem Own_short (A : Option Addr) (c : Nat) (key : List Int) (w : World) (hC : Kd.C (Kd.int .u8) w A key.length key) (hs : key.length ≤ 64) : Calls Try.prog 123 #[.slice A key.length c] w fun e w' => e = .returned (.agg (arr .u8 (fitL key))) ∧ Below w.heap.size w w' := by
  have HC := Aside0.mk hC
  have hfl := fitL_length key hs
  have HFL := Aside0.mk hfl
  clear hC hfl
  go_enter Try.func123, Try.ntmps123
  go_wp2_with (first | ((with_reducible refine gate_dst (N := 2) rfl ?_); refine L_alloc rfl 201 rfl (.agg (arr .u8 (List.replicate 64 0))) 64 (by kernel_rfl) ?_; intro g2 w1 hb2 hg2 hs2 hl2; have HB2 := Aside0.mk hb2; clear hb2; have HG2 := Aside0.mk hg2; clear hg2; have HS2 := Aside0.mk hs2; clear hs2; have HL2 := Aside0.mk hl2; clear hl2) | ((with_reducible refine gate_dst (N := 3) rfl ?_); refine L_alloc rfl 201 rfl (.agg (arr .u8 (List.replicate 64 0))) 64 (by kernel_rfl) ?_; intro g3 w2 hb3 hg3 hs3 hl3; have HB3 := Aside0.mk hb3; clear hb3; have HG3 := Aside0.mk hg3; clear hg3; have HS3 := Aside0.mk hs3; clear hs3; have HL3 := Aside0.mk hl3; clear hl3) | ((with_reducible refine gate_builtin (b := .copy) (xs := #[.tmp 14, .tmp 15]) rfl ?_); refine wpList_copy_splice rfl (.tmp 14) (.tmp 15) 22 22 rfl 5 Try.underlying22 (by kernel_rfl) (some ⟨g3, 0, none⟩) A 64 64 key.length c rfl rfl g3 0 (List.replicate 64 (Value.int .u8 0)) 201 HB3.out (key.map (Value.int .u8)) (by rw [List.length_map]; exact (Nat.min_eq_left hs).symm) (fun hp => ⟨rfl, C_cells (Kd.C_below (Kd.C_below HC.out HL2.out) HL3.out) (by simpa using hp)⟩) (by simp; omega) (by intro v hv; obtain ⟨x, _, rfl⟩ := List.mem_map.1 hv; rfl) g3 w2 (Below.refl _ _) (Nat.le_refl _) ?_; intro w4 hb4 hB4; have HD4 := Aside0.mk (hb4.out.trans (by rw [splice_fit key hs])); have HB4 := Aside0.mk hB4; clear hb4 hB4) | ((with_reducible refine gate_dst (N := 17) rfl ?_); refine L_load rfl 201 (.tmp 3) rfl g3 rfl 201 (arr .u8 (fitL key)) _ (HD4.out) Try.underlying201 rfl (by rw [arr_size, HFL.out]; kernel_rfl) ?_) | (refine L_store rfl rfl 201 (.tmp 2) (.tmp 17) (by rfl) g2 (arr .u8 (fitL key)) (by rfl) (by rfl) (arr .u8 (List.replicate 64 0)) 201 ((HB4.out.block g2 (by have := HG3.out; have := HS2.out; omega)).trans ((HL3.out.block g2 (blk_lt HB2.out)).trans HB2.out)) (by rw [arr_size, arr_size, HFL.out]; rfl) (by rw [arr_size, HFL.out]; kernel_rfl) (arr_one _ _) ?_; intro w5 hbw5 huw5; have HBW5 := Aside0.mk hbw5; clear hbw5; have HUW5 := Aside0.mk huw5; clear huw5))
  exact ret_cell rfl rfl g2 rfl (arr .u8 (fitL key)) 201 _ HBW5.out Try.underlying201 rfl (by rw [arr_size, HFL.out]; kernel_rfl) ⟨rfl, HUW5.out.below ((below_step HL2.out HL3.out).trans (HB4.out.mono (by have := HG2.out; have := HG3.out; have := HS2.out; omega))) (Nat.le_of_eq HG2.out)⟩
set_option maxHeartbeats 8000000 in
set_option maxRecDepth 100000 in
theorem Own_long (A : Option Addr) (c : Nat) (key : List Int) (w : World) (hC : Kd.C (Kd.int .u8) w A key.length key) (hcc : key.length ≤ c) (hs : key.length > 64) (hB : Bytes key) (hl : key.length ≤ 1000000000) : Calls Try.prog 123 #[.slice A key.length c] w fun e w' => e = .returned (.agg (arr .u8 (fitL (shaL key)))) ∧ Below w.heap.size w w' := by
  have HC := Aside0.mk hC
  have HBB := Aside0.mk hB
  have hfl := fitL_length (shaL key) (by rw [shaL_length]; omega)
  have HFL := Aside0.mk hfl
  have h32 := shaL_length key
  have H32 := Aside0.mk h32
  clear hC hfl hB h32
  go_enter Try.func123, Try.ntmps123
  go_wp2_with (first | ((with_reducible refine gate_dst (N := 2) rfl ?_); refine L_alloc rfl 201 rfl (.agg (arr .u8 (List.replicate 64 0))) 64 (by kernel_rfl) ?_; intro g2 w1 hb2 hg2 hs2 hl2; have HB2 := Aside0.mk hb2; clear hb2; have HG2 := Aside0.mk hg2; clear hg2; have HS2 := Aside0.mk hs2; clear hs2; have HL2 := Aside0.mk hl2; clear hl2) | ((with_reducible refine gate_dst (N := 3) rfl ?_); refine L_alloc rfl 201 rfl (.agg (arr .u8 (List.replicate 64 0))) 64 (by kernel_rfl) ?_; intro g3 w2 hb3 hg3 hs3 hl3; have HB3 := Aside0.mk hb3; clear hb3; have HG3 := Aside0.mk hg3; clear hg3; have HS3 := Aside0.mk hs3; clear hs3; have HL3 := Aside0.mk hl3; clear hl3) | (go_at_call 135; refine (Sum_calls A c key _ (Kd.C_below (Kd.C_below HC.out HL2.out) HL3.out) hcc HBB.out hl).mono ?_; rintro e w3 ⟨rfl, hb5⟩; have HB5 := Aside0.mk hb5; clear hb5) | ((with_reducible refine gate_dst (N := 4) rfl ?_); refine L_alloc rfl 130 rfl (.agg (arr .u8 (List.replicate 32 0))) 32 (by kernel_rfl) ?_; intro g4 w6 hb4 hg4 hs4 hl4; have HB4 := Aside0.mk hb4; clear hb4; have HG4 := Aside0.mk hg4; clear hg4; have HS4 := Aside0.mk hs4; clear hs4; have HL4 := Aside0.mk hl4; clear hl4) | (refine L_store rfl rfl 130 (.tmp 4) (.tmp 9) (by rfl) g4 (arr .u8 (shaL key)) (by rfl) (by rfl) (arr .u8 (List.replicate 32 0)) 130 (HB4.out) (by rw [arr_size, arr_size, H32.out]; rfl) (by rw [arr_size, H32.out]; kernel_rfl) (arr_one _ _) ?_; intro w7 hbw7 huw7; have HBW7 := Aside0.mk hbw7; clear hbw7; have HUW7 := Aside0.mk huw7; clear huw7))
  have hC4 : Kd.C (Kd.int .u8) w7 (some ⟨g4, 0, none⟩) (shaL key).length (shaL key) := C_arr HBW7.out (by rw [H32.out]; omega)
  have h3w7 : w7.heap[g3]? = some (.cells (arr .u8 (List.replicate 64 0)) 201 (0, 0)) := (HUW7.out.block g3 (by have := HG4.out; have := HG3.out; have := HS3.out; have := HB5.out.size; omega)).trans ((HL4.out.block g3 (Nat.lt_of_lt_of_le (blk_lt HB3.out) HB5.out.size)).trans ((HB5.out.block g3 (blk_lt HB3.out)).trans HB3.out))
  have h2w7 : w7.heap[g2]? = some (.cells (arr .u8 (List.replicate 64 0)) 201 (0, 0)) := (HUW7.out.block g2 (by have := HG4.out; have := HG3.out; have := HS3.out; have := HS2.out; have := HB5.out.size; omega)).trans ((HL4.out.block g2 (by have := blk_lt HB2.out; have := HL3.out.size; have := HB5.out.size; omega)).trans ((HB5.out.block g2 (by have := blk_lt HB2.out; have := HL3.out.size; omega)).trans ((HL3.out.block g2 (blk_lt HB2.out)).trans HB2.out)))
  have hbe : Below w.heap.size w w7 := HUW7.out.below (below_step (below_step (below_step HL2.out HL3.out) HB5.out) HL4.out) (by have := HG4.out; have := HG3.out; have := HG2.out; have := HS2.out; have := HS3.out; have := HB5.out.size; omega)
  have hlt23 : g2 < g3 := by have := HG3.out; have := HS2.out; omega
  have hg2w : w.heap.size = g2 := HG2.out
  have HX := Aside0.mk (And.intro hC4 (And.intro h3w7 (And.intro h2w7 (And.intro hbe hg2w))))
  clear hC4 h3w7 h2w7 hbe hg2w HB2 HG2 HS2 HL2 HB3 HG3 HS3 HL3 HB4 HG4 HS4 HL4 HB5 HBW7 HUW7
  go_region_law (first | ((refine step_copy_splice (by rfl) (.tmp 10) (.tmp 11) 22 22 (by rfl) 5 Try.underlying22 (by kernel_rfl) (some ⟨g3, 0, none⟩) (some ⟨g4, 0, none⟩) 64 64 32 32 (by rfl) (by rfl) g3 0 (List.replicate 64 (Value.int .u8 0)) 201 (show _ from HX.out.2.1) ((shaL key).map (Value.int .u8)) (by rw [List.length_map, H32.out]; rfl) (fun hp => ⟨rfl, C_cells (show Kd.C (Kd.int .u8) w7.drew (some ⟨g4, 0, none⟩) (shaL key).length (shaL key) from Kd.C_drew HX.out.1) (by rw [H32.out]; omega)⟩) (by rw [List.length_map, H32.out]; simp) (by intro v hv; obtain ⟨x, _, rfl⟩ := List.mem_map.1 hv; rfl) g3 w7.drew (Below.refl _ _) (Nat.le_refl _) ?_; intro w8 hb8 hB8; have HD8 := Aside0.mk (hb8.out.trans (by rw [splice_fit (shaL key) (by rw [H32.out]; omega)])); have HB8 := Aside0.mk hB8; clear hb8 hB8)))
  go_wp2_with (first | ((with_reducible refine gate_dst (N := 13) rfl ?_); refine L_load rfl 201 (.tmp 3) rfl g3 rfl 201 (arr .u8 (fitL (shaL key))) _ (HD8.out) Try.underlying201 rfl (by rw [arr_size, HFL.out]; kernel_rfl) ?_) | (refine L_store rfl rfl 201 (.tmp 2) (.tmp 13) (by rfl) g2 (arr .u8 (fitL (shaL key))) (by rfl) (by rfl) (arr .u8 (List.replicate 64 0)) 201 ((HB8.out.block g2 hlt23).trans (show _ from HX.out.2.2.1)) (by rw [arr_size, arr_size, HFL.out]; rfl) (by rw [arr_size, HFL.out]; kernel_rfl) (arr_one _ _) ?_; intro w9 hbw9 huw9; have HBW9 := Aside0.mk hbw9; clear hbw9; have HUW9 := Aside0.mk huw9; clear huw9))
  exact ret_cell rfl rfl g2 rfl (arr .u8 (fitL (shaL key))) 201 _ HBW9.out Try.underlying201 rfl (by rw [arr_size, HFL.out]; kernel_rfl) ⟨rfl, HUW9.out.below ((below_drew HX.out.2.2.2.1).trans (HB8.out.mono (by have := HX.out.2.2.2.2; omega))) (Nat.le_of_eq HX.out.2.2.2.2)⟩
theorem Own_calls (A : Option Addr) (c : Nat) (key : List Int) (w : World) (hC : Kd.C (Kd.int .u8) w A key.length key) (hcc : key.length ≤ c) (hB : Bytes key) (hl : key.length ≤ 1000000000) : Calls Try.prog 123 #[.slice A key.length c] w fun e w' => e = .returned (.agg (arr .u8 (ownL key))) ∧ Below w.heap.size w w' := by
  unfold ownL
  split
  · rename_i h
    exact Own_long A c key w hC hcc h hB hl
  · rename_i h
    exact Own_short A c key w hC (by omega)
end Go.Proofs.Ytdbfclfglpbpmaa.Sha

namespace Go.Proofs.Ytdbfclfglpbpmaa.Sha
open Go.RowKit Go.Proofs.YtdbfclfglpbpmaaW.Hand Go.Proofs.YtdbfclfglpbpmaaW.PrintWords Go.Proofs.YtdbfclfglpbpmaaW.PrintLast Go.Proofs.YtdbfclfglpbpmaaW.PrintMore Go.Proofs.Ytdbfclfglpbpmaa.PF25F Go.Proofs.Ytdbfclfglpbpmaa.Base Go.Proofs.Ytdbfclfglpbpmaa.LF25F
set_option linter.unusedVariables false
set_option linter.unusedSimpArgs false

def turnL (own : List Int) (x : Int) : List Int := own.map fun b => Go.bits .xor .u8 b x
theorem turnL_length (own : List Int) (x : Int) : (turnL own x).length = own.length := by simp [turnL]
theorem bits_u8 (op : BinOp) (a b : Int) : 0 ≤ Go.bits op .u8 a b ∧ Go.bits op .u8 a b ≤ 255 := by
  unfold Go.bits
  cases op <;> simp only [IntKind.wrap_u8] <;> omega
theorem turnL_bytes (own : List Int) (x : Int) : Bytes (turnL own x) := by
  intro y hy
  unfold turnL at hy
  obtain ⟨b, _, rfl⟩ := List.mem_map.1 hy
  exact bits_u8 _ _ _
theorem L_make {P : Program} {ops : Array Oper} {rest : List Oper} {o : Oper} {a : Act} {W : World} {Q : Exit → Act → World → Prop} (hgd : o.guard = none) (t : TypeId) (x y : Operand) (ho : o.op = .makeSlice t x y) (n : Nat) (hx : a.eval x = .int .i64 n) (hy : a.eval y = .int .i64 n) (ht : P.underlying t = some (.slice 5)) (hinfo : (P.info? 5).map (fun i => (i.zero, i.size, i.bytes)) = some (some (.int .u8 0), 1, 1)) (hn : n ≤ 1000000)
    (h : ∀ g w1, w1.heap[g]? = some (.cells (arr .u8 (List.replicate n 0)) 5 (0, 0)) → W.heap.size = g → w1.heap.size = g + 1 → Below W.heap.size W w1 → wpList P ops Q rest (a.put o.dst (.slice (some ⟨g, 0, none⟩) n n)) w1) : wpList P ops Q (o :: rest) a W := by
  obtain ⟨i0, hi, hzz⟩ := Option.map_eq_some_iff.1 hinfo
  simp only [Prod.mk.injEq] at hzz
  obtain ⟨hz0, hz1, hz2⟩ := hzz
  have hr := run_make (P := P) W t 5 i0 (.int .u8 0) ht hi hz0 .i64 .i64 (n : Int) (n : Int) (by omega) (by omega) (by rw [hz2]; omega) (by omega)
  simp only [Int.toNat_natCast, hz1, Nat.mul_one] at hr
  have e : madeCells (Value.int .u8 0).cells n = arr .u8 (List.replicate n 0) := by
    apply Array.ext_getElem?
    intro i
    unfold madeCells arr
    by_cases hi : i < n
    · simp [hi, Value.cells, Nat.mod_one]
    · rw [Array.getElem?_eq_none (by simp; omega), Array.getElem?_eq_none (by simp; omega)]
  rw [e] at hr
  refine Kd.event_run hgd (v := .slice (some ⟨W.heap.size, 0, none⟩) n n) (w1 := W.alloc (.cells (arr .u8 (List.replicate n 0)) 5)) ?_ (h _ _ (heap_alloc_new W _) rfl (by show (W.heap.push _).size = _; simp) ((Below.refl _ _).alloc (Nat.le_refl _) _))
  simp [execOp, ho, hx, hy, hr]
theorem run_index_arr {P : Program} (W : World) (t e : TypeId) (n : Nat) (k : IntKind) (ht : P.underlying t = some (.array n e)) (he : P.underlying e = some (.int k)) (hsz : (P.info? e).map (·.size) = some 1) (xs : List Int) (hx : xs.length = n) (i : Nat) (hi : i < n) :
    (Instr.index t (.agg (arr k xs)) (.int .i64 i)).run P W = .ok (.int k (rd xs (i : Nat))) W := by
  have hsz' : (sizeOf e).run P W = .ok 1 W := by
    cases hq : P.info? e with
    | none => simp [hq] at hsz
    | some ii =>
      have : ii.size = 1 := by simpa [hq] using hsz
      simp [sizeOf, typeInfo, hq, this]
  have hg := arr_get k xs i (by omega)
  simp only [Instr.index, asIntOf, Sem.run_bind, Sem.run_pure, Result.andThen_ok, run_underlying ht]
  rw [if_pos (by omega)]
  simp [Sem.run_bind, hsz', part, isAgg, run_underlying he, hg]
theorem turn_next (own : List Int) (x : Int) (k : Nat) (hk : k < own.length) : ((turnL own x).take k ++ List.replicate (own.length - k) 0).set k (Go.bits .xor .u8 (rd own (k : Nat)) x) = (turnL own x).take (k + 1) ++ List.replicate (own.length - (k + 1)) 0 := by
  have hl : ((turnL own x).take k).length = k := by rw [List.length_take, turnL_length]; omega
  have hk' : k < (turnL own x).length := by rw [turnL_length]; exact hk
  rw [List.set_append_right _ _ (by omega), hl, Nat.sub_self, List.take_succ_eq_append_getElem hk']
  obtain ⟨d, hd⟩ : ∃ d, own.length - k = d + 1 := ⟨own.length - k - 1, by omega⟩
  rw [hd, List.replicate_succ, List.set_cons_zero, show own.length - (k + 1) = d by omega, List.append_assoc]
  have e : (turnL own x)[k] = Go.bits .xor .u8 own[k] x := by simp [turnL]
  rw [e, rd_lt hk]
  rfl
set_option maxHeartbeats 8000000 in
set_option maxRecDepth 100000 in
theorem turned_calls (own : List Int) (hl : own.length = 64) (x : Int) (w : World) : Calls Try.prog 126 #[.agg (arr .u8 own), .int .u8 x] w fun e w' => ∃ A, e = .returned (.slice A 64 64) ∧ Kd.C (Kd.int .u8) w' A (turnL own x).length (turnL own x) ∧ Below w.heap.size w w' := by
  have HLN := Aside0.mk hl
  clear hl
  have hidx : ∀ (W : World) (i : Nat), i < 64 → (Instr.index 201 (.agg (arr .u8 own)) (.int .i64 i)).run Try.prog W = .ok (.int .u8 (rd own (i : Nat))) W := fun W i hi => run_index_arr W 201 5 64 .u8 Try.underlying201 Try.underlying5 (by kernel_rfl) own HLN.out i hi
  have HIDX := Aside0.mk hidx
  clear hidx
  go_enter Try.func126, Try.ntmps126
  go_wp2_with (first | ((with_reducible refine gate_dst (N := 2) rfl ?_); refine L_box rfl 201 (.tmp 0) rfl (.agg (arr .u8 own)) rfl ?_; intro g2 w1 hb2 hg2 hs2 hl2; have HB2 := Aside0.mk hb2; clear hb2; have HG2 := Aside0.mk hg2; clear hg2; have HS2 := Aside0.mk hs2; clear hs2; have HL2 := Aside0.mk hl2; clear hl2) | ((with_reducible refine gate_dst (N := 8) rfl ?_); refine L_make rfl 22 (.const (.int .i64 64)) (.const (.int .i64 64)) rfl 64 rfl rfl Try.underlying22 info5 (by omega) ?_; intro g8 w2 hb8 hg8 hs8 hl8; have HB8 := Aside0.mk hb8; clear hb8; have HG8 := Aside0.mk hg8; clear hg8; have HS8 := Aside0.mk hs8; clear hs8; have HL8 := Aside0.mk hl8; clear hl8) | ((with_reducible refine gate_dst (N := 9) rfl ?_); refine L_load rfl 201 (.tmp 2) rfl g2 rfl 201 (arr .u8 own) _ ((HL8.out.block g2 (blk_lt HB2.out)).trans HB2.out) Try.underlying201 rfl (by rw [arr_size, HLN.out]; kernel_rfl) ?_))
  have hI : Aside0 (w2.heap[g8]? = some (.cells (arr .u8 ((turnL own x).take 0 ++ List.replicate (64 - 0) 0)) 5 (0, 0)) ∧ Below w.heap.size w w2 ∧ w.heap.size ≤ g8) := ⟨HB8.out, below_step HL2.out HL8.out, by have := HG8.out; have := HL2.out.size; omega⟩
  clear HB2 HG2 HS2 HL2 HB8 HG8 HS8 HL8
  go_loopw [10] (fun i wr => ∃ k : Nat, k ≤ 64 ∧ i = .int .i64 k ∧ Aside0 (wr.heap[g8]? = some (.cells (arr .u8 ((turnL own x).take k ++ List.replicate (64 - k) 0)) 5 (0, 0)) ∧ Below w.heap.size w wr ∧ w.heap.size ≤ g8)) (fun i _ => 64 - (intOf i).toNat)
  case atStart => exact ⟨0, by omega, rfl, hI⟩
  case round =>
    clear hI
    obtain ⟨k, hk, rfl, HR⟩ := hrel
    by_cases hlt : k < 64
    · have hix := fun W => HIDX.out W k hlt
      obtain ⟨v, hv⟩ : ∃ v, v = rd own (k : Nat) := ⟨_, rfl⟩
      rw [← hv] at hix
      have hck : wr.cell? ⟨g8, k, none⟩ = some (.int .u8 (rd ((turnL own x).take k ++ List.replicate (64 - k) 0) (k : Nat))) := by
        rw [blk_cell HR.out.1 k, arr_get _ _ _ (by rw [List.length_append, List.length_take, List.length_replicate, turnL_length, HLN.out]; omega)]
      have hfk : wr.frozen? ⟨g8, k, none⟩ = false := blk_frozen HR.out.1 k
      have HV := Aside0.mk hv
      clear hv
      go_wp2
      go_roundw
      case rel =>
        refine ⟨k + 1, by omega, by go_num, ⟨?_, HR.out.2.1.setCell HR.out.2.2 _, HR.out.2.2⟩⟩
        refine (blk_set HR.out.1 k _).trans ?_
        have := turn_next own x k (by rw [HLN.out]; exact hlt)
        rw [HLN.out] at this
        rw [arr_set, HV.out, this]
      case measure => simp [intOf]; omega
    · obtain rfl : k = 64 := by omega
      have HR' : wr.heap[g8]? = some (.cells (arr .u8 (turnL own x)) 5 (0, 0)) := by
        have := HR.out.1
        rw [List.take_of_length_le (by rw [turnL_length, HLN.out]; omega)] at this
        simpa using this
      have HBE := Aside0.mk HR.out.2.1
      have HX := Aside0.mk HR'
      clear HR' HR
      go_wp2
      go_ret
      exact ⟨some ⟨g8, 0, none⟩, rfl, C_arr HX.out (by rw [turnL_length, HLN.out]; omega), HBE.out⟩
end Go.Proofs.Ytdbfclfglpbpmaa.Sha

namespace Go.Proofs.Ytdbfclfglpbpmaa.Sha
open Go.RowKit Go.Proofs.YtdbfclfglpbpmaaW.Hand Go.Proofs.YtdbfclfglpbpmaaW.PrintWords Go.Proofs.YtdbfclfglpbpmaaW.PrintLast Go.Proofs.YtdbfclfglpbpmaaW.PrintMore Go.Proofs.Ytdbfclfglpbpmaa.PF25F Go.Proofs.Ytdbfclfglpbpmaa.Base Go.Proofs.Ytdbfclfglpbpmaa.LF25F
set_option linter.unusedVariables false
set_option linter.unusedSimpArgs false

/-- A Hash that has been given this text; v: its bytes that wait. -/
def HashV (w : World) (base g : Nat) (all : List Int) (v : Value) : Prop :=
  w.heap[g]? = some (.cells (hcells (eat FS all (all.length / 64)) v (all.length : Int)) 217 (0, 0)) ∧ QB w base v (all.drop (64 * (all.length / 64)))
theorem HashV.of {w : World} {base g : Nat} {all : List Int} {v : Value} (h : HashV w base g all v) : HashOf w base g all := by
  obtain ⟨h1, h2⟩ := h
  obtain ⟨A, c, rfl, _⟩ := h2.slice
  exact ⟨A, c, h1, h2⟩
theorem HashV.kept {w w' : World} {S : Nat → Prop} {base g : Nat} {all : List Int} {v : Value} (h : HashV w base g all v) (hk : Kept w w' S) (hg : ¬ S g) (hv : ∀ k, v.ownBlock = some k → ¬ S k) : HashV w' base g all v := ⟨(hk.2 g (blk_lt h.1) hg).trans h.1, h.2.kept hk hv⟩
/-- Rows of bytes that came in, read one by one. -/
theorem rows_at {w : World} {A : Option Addr} {l : List (List Int)} (h : Kd.C (Kd.slice 5 (Kd.int .u8)) w A l.length l) (k : Nat) (hk : k < l.length) : ∃ ad A' c', A = some ad ∧ w.cell? (ad.add k) = some (.slice A' l[k].length c') ∧ l[k].length ≤ c' ∧ Kd.C (Kd.int .u8) w A' l[k].length l[k] := by
  obtain ⟨ad, e, hc⟩ := h.2.2 (by omega)
  obtain ⟨cs, h1, h2, h3⟩ := hc k l[k] (List.getElem?_eq_getElem hk)
  obtain ⟨A', c', rfl, hle, hC⟩ := h2
  refine ⟨ad, A', c', e, ?_, hle, hC⟩
  have := h3 0 _ rfl
  rwa [Nat.add_zero, show (Kd.slice 5 (Kd.int .u8)).sz = 1 from rfl, Nat.mul_one] at this
end Go.Proofs.Ytdbfclfglpbpmaa.Sha

namespace Go.Proofs.Ytdbfclfglpbpmaa.Sha
open Go.RowKit Go.Proofs.YtdbfclfglpbpmaaW.Hand Go.Proofs.YtdbfclfglpbpmaaW.PrintWords Go.Proofs.YtdbfclfglpbpmaaW.PrintLast Go.Proofs.YtdbfclfglpbpmaaW.PrintMore Go.Proofs.Ytdbfclfglpbpmaa.PF25F Go.Proofs.Ytdbfclfglpbpmaa.Base Go.Proofs.Ytdbfclfglpbpmaa.LF25F
set_option linter.unusedVariables false
set_option linter.unusedSimpArgs false

/-- The state behind the inner sum: the outer hash, the result's place, the inner sum. -/
def HSt2 (w wr : World) (g4 g7 g10 : Nat) (K all : List Int) : Prop :=
  HashOf wr w.heap.size g7 all ∧ wr.heap[g4]? = some (.cells (arr .u8 (List.replicate 32 0)) 130 (0, 0)) ∧ wr.heap[g10]? = some (.cells (arr .u8 K) 130 (0, 0)) ∧ Below w.heap.size w wr ∧ g4 ≠ g7 ∧ g10 ≠ g7 ∧ w.heap.size ≤ g7 ∧ w.heap.size = g4
theorem HSt2.below {w wr W : World} {g4 g7 g10 : Nat} {K all : List Int} (h : HSt2 w wr g4 g7 g10 K all) (hb : Below wr.heap.size wr W) : HSt2 w W g4 g7 g10 K all := by
  obtain ⟨h1, h2, h3, h4, h5⟩ := h
  exact ⟨h1.below hb, (hb.block _ (blk_lt h2)).trans h2, (hb.block _ (blk_lt h3)).trans h3, below_step h4 hb, h5⟩
theorem HSt2.write {w wr W : World} {g4 g7 g10 : Nat} {K all all' : List Int} (h : HSt2 w wr g4 g7 g10 K all) (h1 : HashOf W w.heap.size g7 all') (hb : Below w.heap.size wr W) (ho : Others wr W g7) : HSt2 w W g4 g7 g10 K all' := by
  obtain ⟨_, h2, h3, h4, h5, h6, h7⟩ := h
  exact ⟨h1, ho _ _ _ h5 (by decide) h2, ho _ _ _ h6 (by decide) h3, h4.trans hb, h5, h6, h7⟩

def hmacL (key : List Int) (ps : List (List Int)) : List Int := shaL (turnL (ownL key) 92 ++ shaL (turnL (ownL key) 54 ++ ps.flatten))
/-- The state of hmac.Sum's loop: the first hash, the second one, the array, the result's place. -/
def HSt (w wr : World) (g4 g5 g6 g7 : Nat) (own all : List Int) : Prop :=
  HashOf wr w.heap.size g6 all ∧ wr.heap[g4]? = some (.cells (arr .u8 (List.replicate 32 0)) 130 (0, 0)) ∧ wr.heap[g5]? = some (.cells (arr .u8 own) 201 (0, 0)) ∧ wr.heap[g7]? = some (.cells (hcells FS (.slice none 0 0) 0) 217 (0, 0)) ∧ Below w.heap.size w wr
theorem HSt.below {w wr W : World} {g4 g5 g6 g7 : Nat} {own all : List Int} (h : HSt w wr g4 g5 g6 g7 own all) (hb : Below wr.heap.size wr W) : HSt w W g4 g5 g6 g7 own all := by
  obtain ⟨h1, h2, h3, h4, h5⟩ := h
  exact ⟨h1.below hb, (hb.block _ (blk_lt h2)).trans h2, (hb.block _ (blk_lt h3)).trans h3, (hb.block _ (blk_lt h4)).trans h4, below_step h5 hb⟩
theorem HSt.write {w wr W : World} {g4 g5 g6 g7 : Nat} {own all all' : List Int} (h : HSt w wr g4 g5 g6 g7 own all) (hn : g4 ≠ g6 ∧ g5 ≠ g6 ∧ g7 ≠ g6) (h1 : HashOf W w.heap.size g6 all') (hb : Below w.heap.size wr W) (ho : Others wr W g6) : HSt w W g4 g5 g6 g7 own all' := by
  obtain ⟨_, h2, h3, h4, h5⟩ := h
  exact ⟨h1, ho _ _ _ hn.1 (by decide) h2, ho _ _ _ hn.2.1 (by decide) h3, ho _ _ _ hn.2.2 (by decide) h4, h5.trans hb⟩

theorem hst2_start {w w11 w12 : World} {g4 g5 g6 g7 g10 : Nat} {own all K : List Int} (h : HSt w w11 g4 g5 g6 g7 own all) (h10 : w12.heap[g10]? = some (.cells (arr .u8 K) 130 (0, 0))) (hu : Upd w11 w12 g10) (l4 : g4 < g10) (l5 : g5 < g10) (l7 : g7 < g10) (hn : g4 ≠ g6 ∧ g5 ≠ g6 ∧ g7 ≠ g6 ∧ w.heap.size ≤ g6 ∧ w.heap.size ≤ g7 ∧ w.heap.size = g4 ∧ g4 < g5 ∧ g5 < g7) : HSt2 w w12 g4 g7 g10 K [] := by
  obtain ⟨h1, h2, h3, h4, h5⟩ := h
  exact ⟨HashOf.new ((hu.block g7 (by omega)).trans h4) _, (hu.block g4 (by omega)).trans h2, h10, hu.below h5 (by omega), by omega, by omega, by omega, by omega⟩
theorem hmacL_length (key : List Int) (ps : List (List Int)) : (hmacL key ps).length = 32 := shaL_length _

theorem hst_start {w w4 w5 w6 : World} {g4 g5 g6 g7 : Nat} {own : List Int} (h4 : w4.heap[g4]? = some (.cells (arr .u8 (List.replicate 32 0)) 130 (0, 0))) (h5 : w4.heap[g5]? = some (.cells (arr .u8 own) 201 (0, 0))) (hbe : Below w.heap.size w w4) (h6 : w5.heap[g6]? = some (.cells (hcells FS (.slice none 0 0) 0) 217 (0, 0))) (hb5 : Below w4.heap.size w4 w5) (h7 : w6.heap[g7]? = some (.cells (hcells FS (.slice none 0 0) 0) 217 (0, 0))) (hb6 : Below w5.heap.size w5 w6) : HSt w w6 g4 g5 g6 g7 own [] :=
  ⟨HashOf.new ((hb6.block g6 (blk_lt h6)).trans h6) _, (hb6.block g4 (Nat.lt_of_lt_of_le (blk_lt h4) hb5.size)).trans ((hb5.block g4 (blk_lt h4)).trans h4), (hb6.block g5 (Nat.lt_of_lt_of_le (blk_lt h5) hb5.size)).trans ((hb5.block g5 (blk_lt h5)).trans h5), h7, below_step (below_step hbe hb5) hb6⟩
theorem hst_apart {w w4 w5 : World} {g4 g5 g6 g7 : Nat} {c4 c5 c6 : Array Value} (h4 : w4.heap[g4]? = some (.cells c4 130 (0, 0))) (h5 : w4.heap[g5]? = some (.cells c5 201 (0, 0))) (h6 : w4.heap.size ≤ g6) (h7 : w5.heap.size ≤ g7) (h6b : w5.heap[g6]? = some (.cells c6 217 (0, 0))) (hbe : Below w.heap.size w w4) (hb5 : Below w4.heap.size w4 w5) (hg4 : w.heap.size = g4) (h45 : g4 < g5) :
    g4 ≠ g6 ∧ g5 ≠ g6 ∧ g7 ≠ g6 ∧ w.heap.size ≤ g6 ∧ w.heap.size ≤ g7 ∧ w.heap.size = g4 ∧ g4 < g5 ∧ g5 < g7 := by
  have l4 := blk_lt h4
  have l5 := blk_lt h5
  have l6 := blk_lt h6b
  have s5 := hb5.size
  have sb := hbe.size
  refine ⟨?_, ?_, ?_, ?_, ?_, ?_, ?_, ?_⟩ <;> omega

theorem flat_le (ps : List (List Int)) (h : ∀ x ∈ ps, x.length ≤ 100000) (k : Nat) : (ps.take k).flatten.length ≤ 100000 * k := by
  induction k with
  | zero => simp
  | succ k ih =>
    rcases Nat.lt_or_ge k ps.length with hk | hk
    · rw [List.take_succ_eq_append_getElem hk, List.flatten_append, List.length_append]
      have := h _ (List.getElem_mem hk)
      rw [show [ps[k]].flatten = ps[k] by simp]
      omega
    · rw [List.take_of_length_le (by omega)] at ih ⊢
      omega
theorem flat_bytes (ps : List (List Int)) (h : ∀ x ∈ ps, Bytes x) (k : Nat) : Bytes (ps.take k).flatten := by
  intro y hy
  obtain ⟨x, hx, hyx⟩ := List.mem_flatten.1 hy
  exact h x (List.mem_of_mem_take hx) y hyx
set_option maxHeartbeats 8000000 in
set_option maxRecDepth 100000 in
theorem HmacSum_calls (A : Option Addr) (c : Nat) (key : List Int) (A2 : Option Addr) (c2 : Nat) (ps : List (List Int)) (w : World) (hC : Kd.C (Kd.int .u8) w A key.length key) (hcc : key.length ≤ c) (hB : Bytes key) (hlk : key.length ≤ 1000000) (hC2 : Kd.C (Kd.slice 5 (Kd.int .u8)) w A2 ps.length ps) (hcc2 : ps.length ≤ c2) (hBp : ∀ x ∈ ps, Bytes x) (hlp : ps.length ≤ 1000) (hlq : ∀ x ∈ ps, x.length ≤ 100000) :
    Calls Try.prog 116 #[.slice A key.length c, .slice A2 ps.length c2] w fun e w' => e = .returned (.agg (arr .u8 (hmacL key ps))) ∧ Below w.heap.size w w' := by
  have HC := Aside0.mk hC
  have HC2 := Aside0.mk hC2
  have HBK := Aside0.mk hB
  have HBP := Aside0.mk hBp
  have HLQ := Aside0.mk hlq
  clear hC hC2 hB hBp hlq
  go_enter Try.func116, Try.ntmps116
  go_wp2_with (first | ((with_reducible refine gate_dst (N := 4) rfl ?_); refine L_alloc rfl 130 rfl (.agg (arr .u8 (List.replicate 32 0))) 32 (by kernel_rfl) ?_; intro g4 w1 hb4 hg4 hs4 hl4; have HB4 := Aside0.mk hb4; clear hb4; have HG4 := Aside0.mk hg4; clear hg4; have HS4 := Aside0.mk hs4; clear hs4; have HL4 := Aside0.mk hl4; clear hl4) | (go_at_call 123; refine (Own_calls A c key _ (Kd.C_below HC.out HL4.out) hcc HBK.out (by omega)).mono ?_; rintro e w2 ⟨rfl, hb2⟩; have HB2 := Aside0.mk hb2; clear hb2) | ((with_reducible refine gate_dst (N := 5) rfl ?_); refine L_alloc rfl 201 rfl (.agg (arr .u8 (List.replicate 64 0))) 64 (by kernel_rfl) ?_; intro g5 w3 hb5 hg5 hs5 hl5; have HB5 := Aside0.mk hb5; clear hb5; have HG5 := Aside0.mk hg5; clear hg5; have HS5 := Aside0.mk hs5; clear hs5; have HL5 := Aside0.mk hl5; clear hl5) | (refine L_store rfl rfl 201 (.tmp 5) (.tmp 12) (by rfl) g5 (arr .u8 (ownL key)) (by rfl) (by rfl) (arr .u8 (List.replicate 64 0)) 201 (HB5.out) (by rw [arr_size, arr_size, ownL_length]; rfl) (by rw [arr_size, ownL_length]; kernel_rfl) (arr_one _ _) ?_; intro w4 hbw4 huw4; have HBW4 := Aside0.mk hbw4; clear hbw4; have HUW4 := Aside0.mk huw4; clear huw4; have HP := Aside0.mk (And.intro ((HUW4.out.block g4 (by have := HG5.out; have := blk_lt HB4.out; have := HB2.out.size; omega)).trans ((HL5.out.block g4 (by have := blk_lt HB4.out; have := HB2.out.size; omega)).trans ((HB2.out.block g4 (blk_lt HB4.out)).trans HB4.out))) (And.intro HBW4.out (And.intro (HUW4.out.below (below_step (below_step HL4.out HB2.out) HL5.out) (by have := HG5.out; have := HL4.out.size; have := HB2.out.size; omega)) (And.intro HG4.out (show g4 < g5 from (by have := HG5.out; have := blk_lt HB4.out; have := HB2.out.size; omega)))))); clear HB2 HB5 HG5 HS5 HL5 HBW4 HUW4 HB4 HG4 HS4 HL4) | (go_at_call 124; have _t := HG6.out; refine (New_calls _).mono ?_; rintro e w6 ⟨g7, rfl, hg, hgl, hb5⟩; have HG7 := Aside0.mk hg; have HGL7 := Aside0.mk hgl; have HB7 := Aside0.mk hb5; clear hg hgl hb5; have HS6 := Aside0.mk (hst_start HP.out.1 HP.out.2.1 HP.out.2.2.1 HG6.out HB6.out HG7.out HB7.out); have HN := Aside0.mk (hst_apart HP.out.1 HP.out.2.1 HGL6.out HGL7.out HG6.out HP.out.2.2.1 HB6.out HP.out.2.2.2.1 HP.out.2.2.2.2); clear HG6 HGL6 HB6 HG7 HGL7 HB7) | (go_at_call 124; refine (New_calls _).mono ?_; rintro e w5 ⟨g6, rfl, hg, hgl, hb5⟩; have HG6 := Aside0.mk hg; have HGL6 := Aside0.mk hgl; have HB6 := Aside0.mk hb5; clear hg hgl hb5) | ((with_reducible refine gate_dst (N := 16) rfl ?_); refine L_load rfl 201 (.tmp 5) rfl g5 rfl 201 (arr .u8 (ownL key)) _ (HS6.out.2.2.1) Try.underlying201 rfl (by rw [arr_size, ownL_length]; kernel_rfl) ?_) | (go_at_call 126; refine (turned_calls (ownL key) (ownL_length key) 54 _).mono ?_; rintro e w7 ⟨At, rfl, hCt, hb7⟩; have HCT := Aside0.mk hCt; have HS7 := Aside0.mk (HS6.out.below hb7); have HBX7 := Aside0.mk hb7; clear hCt hb7) | (go_at_call 125; refine (calls_of_args (args' := #[.pointer (some ⟨g6, 0, none⟩), .slice At (turnL (ownL key) 54).length 64]) (by rw [turnL_length, ownL_length]) (WriteH_calls g6 [] (turnL (ownL key) 54) At 64 w.heap.size w7 HS7.out.1 HN.out.2.2.2.1 HS7.out.2.2.2.2.size (fun x hx => by cases hx) HCT.out (by rw [turnL_length, ownL_length]; omega) (turnL_bytes _ _) (by rw [turnL_length, ownL_length]; simp))).mono ?_; rintro e w8 ⟨rfl, hh8, hb8, ho8⟩; rw [List.nil_append] at hh8; have HS8 := Aside0.mk (HS7.out.write ⟨HN.out.1, HN.out.2.1, HN.out.2.2.1⟩ hh8 hb8 ho8); clear hh8 hb8 ho8))
  clear HP HS6 HBX7 HS7 HCT
  have hI : Aside0 (HSt w w8 g4 g5 g6 g7 (ownL key) (turnL (ownL key) 54 ++ (ps.take 0).flatten)) := ⟨by simpa using HS8.out⟩
  clear HS8
  go_loopw [21] (fun i wr => ∃ k : Nat, k ≤ ps.length ∧ i = .int .i64 k ∧ Aside0 (HSt w wr g4 g5 g6 g7 (ownL key) (turnL (ownL key) 54 ++ (ps.take k).flatten))) (fun i _ => ps.length - (intOf i).toNat)
  case atStart => exact ⟨0, by omega, rfl, hI⟩
  case round =>
    clear hI
    obtain ⟨k, hk, rfl, HR⟩ := hrel
    have hfl : (ps.take k).flatten.length ≤ 100000 * k := flat_le ps HLQ.out k
    have hfb : Bytes (ps.take k).flatten := flat_bytes ps HBP.out k
    by_cases hlt : k < ps.length
    · obtain ⟨ad, A', c', rfl, hcell0, hle, hCk⟩ := rows_at HC2.out k hlt
      have hcell := pw_cell_below HR.out.2.2.2.2 hcell0
      have hBk : Bytes ps[k] := HBP.out _ (List.getElem_mem hlt)
      have hpl : ps[k].length ≤ 100000 := HLQ.out _ (List.getElem_mem hlt)
      obtain ⟨p, hp⟩ : ∃ p, p = ps[k] := ⟨_, rfl⟩
      rw [← hp] at hcell hcell0 hle hCk hBk hpl
      have HX := Aside0.mk (And.intro hp (And.intro hfb (And.intro hBk hCk)))
      clear hp hfb hBk hCk hcell0
      go_wp2_with (go_at_call 125; refine (WriteH_calls g6 (turnL (ownL key) 54 ++ (ps.take k).flatten) p A' c' w.heap.size _ HR.out.1 HN.out.2.2.2.1 HR.out.2.2.2.2.size ((turnL_bytes _ _).append HX.out.2.1) (Kd.C_below HX.out.2.2.2 HR.out.2.2.2.2) hle HX.out.2.2.1 (by rw [List.length_append, turnL_length, ownL_length]; omega)).mono ?_; rintro e w9 ⟨rfl, hh9, hb9, ho9⟩; have HS9 := Aside0.mk (HR.out.write ⟨HN.out.1, HN.out.2.1, HN.out.2.2.1⟩ hh9 hb9 ho9); clear hh9 hb9 ho9)
      go_roundw
      case rel =>
        have e : turnL (ownL key) 54 ++ (ps.take (k + 1)).flatten = turnL (ownL key) 54 ++ (ps.take k).flatten ++ p := by
          rw [HX.out.1, List.take_succ_eq_append_getElem hlt, List.flatten_append, List.append_assoc]
          simp
        exact ⟨k + 1, by omega, by go_num, ⟨by rw [e]; exact HS9.out⟩⟩
      case measure => simp [intOf]; omega
    · obtain rfl : k = ps.length := by omega
      have HS9 : Aside0 (HSt w wr g4 g5 g6 g7 (ownL key) (turnL (ownL key) 54 ++ ps.flatten)) := ⟨by have := HR.out; rwa [List.take_of_length_le (Nat.le_refl _)] at this⟩
      rw [List.take_of_length_le (Nat.le_refl _)] at hfl hfb
      have HFB := Aside0.mk hfb
      have HHL := Aside0.mk (hmacL_length key ps)
      clear HR hfb
      go_wp2_with (first | (go_at_call 127; have _t := HT17.out; refine (SumH_calls g7 (turnL (ownL key) 92 ++ shaL (turnL (ownL key) 54 ++ ps.flatten)) w.heap.size _ HT17.out.1 ((turnL_bytes _ _).append (shaL_bytes _)) (by rw [List.length_append, turnL_length, ownL_length, shaL_length]; omega)).mono ?_; rintro e w18 ⟨rfl, hb⟩; have HT17 := Aside0.mk (HT17.out.below hb); clear hb) | (go_at_call 127; refine (SumH_calls g6 (turnL (ownL key) 54 ++ ps.flatten) w.heap.size _ HS9.out.1 ((turnL_bytes _ _).append HFB.out) (by rw [List.length_append, turnL_length, ownL_length]; omega)).mono ?_; rintro e w10 ⟨rfl, hb⟩; have HT10 := Aside0.mk (HS9.out.below hb); clear hb) | ((with_reducible refine gate_dst (N := 10) rfl ?_); refine L_alloc rfl 130 rfl (.agg (arr .u8 (List.replicate 32 0))) 32 (by kernel_rfl) ?_; intro g10 w11 hb10 hg10 hs10 hl10; have HB10 := Aside0.mk hb10; clear hb10; have HG10 := Aside0.mk hg10; clear hg10; have HS10 := Aside0.mk hs10; clear hs10; have HL10 := Aside0.mk hl10; clear hl10) | (refine L_store rfl rfl 130 (.tmp 10) (.tmp 30) (by rfl) g10 (arr .u8 (shaL (turnL (ownL key) 54 ++ ps.flatten))) (by rfl) (by rfl) (arr .u8 (List.replicate 32 0)) 130 (HB10.out) (by rw [arr_size, arr_size, shaL_length]; rfl) (by rw [arr_size, shaL_length]; kernel_rfl) (arr_one _ _) ?_; intro w12 hbw12 huw12; have HBW12 := Aside0.mk hbw12; clear hbw12; have HUW12 := Aside0.mk huw12; clear huw12; have HT12 := Aside0.mk (hst2_start (HT10.out.below HL10.out) HBW12.out HUW12.out (Nat.le_trans (blk_lt HT10.out.2.1) (Nat.le_of_eq HG10.out)) (Nat.le_trans (blk_lt HT10.out.2.2.1) (Nat.le_of_eq HG10.out)) (Nat.le_trans (blk_lt HT10.out.2.2.2.1) (Nat.le_of_eq HG10.out)) HN.out); have HOW := Aside0.mk ((HUW12.out.block g5 (Nat.ne_of_lt (Nat.lt_of_lt_of_le (blk_lt HT10.out.2.2.1) (Nat.le_of_eq HG10.out)))).trans (HT10.out.below HL10.out).2.2.1)) | ((with_reducible refine gate_dst (N := 32) rfl ?_); refine L_load rfl 201 (.tmp 5) rfl g5 rfl 201 (arr .u8 (ownL key)) _ (HOW.out) Try.underlying201 rfl (by rw [arr_size, ownL_length]; kernel_rfl) ?_) | (go_at_call 126; refine (turned_calls (ownL key) (ownL_length key) 92 _).mono ?_; rintro e w13 ⟨At2, rfl, hCt, hb⟩; have HCT2 := Aside0.mk hCt; have HT13 := Aside0.mk (HT12.out.below hb); clear hCt hb) | (go_at_call 125; have _t := HT15.out; refine (calls_of_args (args' := #[.pointer (some ⟨g7, 0, none⟩), .slice (some ⟨g10, 0, none⟩) (shaL (turnL (ownL key) 54 ++ ps.flatten)).length 32]) (by rw [shaL_length]) (WriteH_calls g7 (turnL (ownL key) 92) (shaL (turnL (ownL key) 54 ++ ps.flatten)) (some ⟨g10, 0, none⟩) 32 w.heap.size w15 HT15.out.1 HT15.out.2.2.2.2.2.2.1 HT15.out.2.2.2.1.size (turnL_bytes _ _) (C_arr HT15.out.2.2.1 (by rw [shaL_length]; omega)) (by rw [shaL_length]; omega) (shaL_bytes _) (by rw [turnL_length, ownL_length, shaL_length]; omega))).mono ?_; rintro e w17 ⟨rfl, hh, hb, ho⟩; have HT17 := Aside0.mk (HT15.out.write hh hb ho); clear hh hb ho) | (go_at_call 125; refine (calls_of_args (args' := #[.pointer (some ⟨g7, 0, none⟩), .slice At2 (turnL (ownL key) 92).length 64]) (by rw [turnL_length, ownL_length]) (WriteH_calls g7 [] (turnL (ownL key) 92) At2 64 w.heap.size w13 HT13.out.1 HT13.out.2.2.2.2.2.2.1 HT13.out.2.2.2.1.size (fun x hx => by cases hx) HCT2.out (by rw [turnL_length, ownL_length]; omega) (turnL_bytes _ _) (by rw [turnL_length, ownL_length]; simp))).mono ?_; rintro e w15 ⟨rfl, hh, hb, ho⟩; rw [List.nil_append] at hh; have HT15 := Aside0.mk (HT13.out.write hh hb ho); clear hh hb ho) | (refine L_store rfl rfl 130 (.tmp 4) (.tmp 39) (by rfl) g4 (arr .u8 (hmacL key ps)) (by rfl) (by rfl) (arr .u8 (List.replicate 32 0)) 130 (HT17.out.2.1) (by rw [arr_size, arr_size, HHL.out]; rfl) (by rw [arr_size, HHL.out]; kernel_rfl) (arr_one _ _) ?_; intro w20 hbw20 huw20; have HBW20 := Aside0.mk hbw20; clear hbw20; have HUW20 := Aside0.mk huw20; clear huw20))
      exact ret_cell rfl rfl g4 rfl (arr .u8 (hmacL key ps)) 130 _ HBW20.out Try.underlying130 rfl (by rw [arr_size, HHL.out]; kernel_rfl) ⟨rfl, HUW20.out.below HT17.out.2.2.2.1 (Nat.le_of_eq HN.out.2.2.2.2.2.1)⟩
end Go.Proofs.Ytdbfclfglpbpmaa.Sha

