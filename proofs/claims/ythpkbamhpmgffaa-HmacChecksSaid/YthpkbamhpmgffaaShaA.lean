/- Hand-written walks and plain lemmas of sha, hmac, keys: what each Go function comes to. No condition. -/
import Derived.Test.YthpkbamhpmgffaaPF02x1
import Derived.Test.YthpkbamhpmgffaaPF02x2
import Derived.Deep.MidRow
import Derived.Deep.RegionHeld3
import Derived.Deep.DrawnRows
import Derived.StillTailTactics
import Derived.BigRegion
import Derived.Laws.CopyOwn
namespace Go.Proofs.Ythpkbamhpmgffaa.Sha
open Go.RowKit Go.Proofs.YthpkbamhpmgffaaW.Hand Go.Proofs.YthpkbamhpmgffaaW.PrintWords Go.Proofs.YthpkbamhpmgffaaW.PrintLast Go.Proofs.YthpkbamhpmgffaaW.PrintMore Go.Proofs.Ythpkbamhpmgffaa.PF02
set_option linter.unusedVariables false
set_option linter.unusedSimpArgs false
/-! ### arrays as lists of numbers -/
def arr (k : IntKind) (xs : List Int) : Array Value := (xs.map (Value.int k)).toArray
theorem arr_size (k : IntKind) (xs : List Int) : (arr k xs).size = xs.length := by simp [arr]
theorem arr_one (k : IntKind) (xs : List Int) : (arr k xs).all (·.oneCell') = true := by
  refine Array.all_eq_true_iff_forall_mem.2 (fun v hv => ?_)
  simp [arr] at hv
  obtain ⟨x, _, rfl⟩ := hv
  rfl
theorem arr_get (k : IntKind) (xs : List Int) (i : Nat) (h : i < xs.length) : (arr k xs)[i]? = some (.int k (rd xs i)) := by
  unfold arr rd
  simp [h, List.getD_eq_getElem?_getD]
theorem arr_set (k : IntKind) (xs : List Int) (i : Nat) (x : Int) : (arr k xs).setIfInBounds i (.int k x) = arr k (xs.set i x) := by
  unfold arr
  simp [List.map_set]
theorem quiet_add {P : Program} {f : FuncId} {args : Array Value} {w : World} {a n : Nat} {v : Value}
    (h : Calls P f args (w.drewN (a + n)) fun e w' => e = .returned v ∧ ∃ m, w' = (w.drewN (a + n)).drewN m) :
    Calls P f args (w.drewN (a + n)) fun e w'' => e = .returned v ∧ ∃ m, w'' = w.drewN (a + m) :=
  h.mono fun _ _ ⟨he, m, hm⟩ => ⟨he, n + m, by rw [hm, World.drewN_drewN, Nat.add_assoc]⟩
/-- w' is w but for what block g holds. -/
structure Upd (w w' : World) (g : Nat) : Prop where
  os : w'.os = w.os
  tape : w'.tape = w.tape
  output : w'.output = w.output
  size : w'.heap.size = w.heap.size
  block : ∀ k, k ≠ g → w'.heap[k]? = w.heap[k]?
theorem Upd.below {w w' w0 : World} {g B : Nat} (h : Upd w w' g) (hb : Below B w0 w) (hg : B ≤ g) : Below B w0 w' :=
  hb.trans ⟨h.os, h.tape, h.output, by rw [h.size]; exact Nat.le_refl _, fun k hk => h.block k (by omega)⟩
section
variable {P : Program} {ops : Array Oper} {rest : List Oper} {o : Oper} {a : Act} {W : World} {Q : Exit → Act → World → Prop}
theorem L_store (hgd : o.guard = none) (hd : o.dst = none) (ty : TypeId) (x y : Operand) (ho : o.op = .store ty x y) (g : Nat) (cells : Array Value) (hx : a.eval x = .pointer (some ⟨g, 0, none⟩)) (hy : a.eval y = .agg cells)
    (old : Array Value) (t : TypeId) (hg : W.heap[g]? = some (.cells old t (0, 0))) (hs : old.size = cells.size) (hi : (P.info? ty).map (·.size) = some cells.size) (h1 : cells.all (·.oneCell') = true)
    (h : ∀ w', w'.heap[g]? = some (.cells cells t (0, 0)) → Upd W w' g → wpList P ops Q rest a w') : wpList P ops Q (o :: rest) a W := by
  refine wpList_plain hgd fun K hK => wp_store_row ty x y ho g cells hx hy t old hg hi hs h1 (hK _ _ ?_)
  rw [hd]
  exact h _ (setRow_heap W g old cells t (0, 0) hg) ⟨rfl, rfl, rfl, setRow_size W g cells, fun k hk => setRow_other W g k cells hk⟩
theorem L_load (hgd : o.guard = none) (ty : TypeId) (x : Operand) (ho : o.op = .load ty x) (g : Nat) (hx : a.eval x = .pointer (some ⟨g, 0, none⟩)) (t : TypeId) (cells : Array Value) (d : TypeDesc)
    (hg : W.heap[g]? = some (.cells cells t (0, 0))) (hu : P.underlying ty = some d) (hd : (match d with | .struct _ | .array _ _ => true | _ => false) = true) (hi : (P.info? ty).map (·.size) = some cells.size)
    (h : wpList P ops Q rest (a.put o.dst (.agg cells)) W) : wpList P ops Q (o :: rest) a W :=
  wpList_plain hgd fun K hK => wp_load_row ty x ho g hx t cells (0, 0) d hg hu hd hi (hK _ _ h)
theorem L_alloc (hgd : o.guard = none) (ty : TypeId) (ho : o.op = .alloc ty) (v : Value) (n : Nat) (hinfo : (P.info? ty).map (fun i => (i.zero, i.size)) = some (some v, n))
    (h : ∀ g w1, w1.heap[g]? = some (.cells v.cells ty (0, 0)) → W.heap.size = g → w1.heap.size = g + 1 → Below W.heap.size W w1 → wpList P ops Q rest (a.put o.dst (.pointer (some ⟨g, 0, none⟩))) w1) : wpList P ops Q (o :: rest) a W := by
  cases hq : P.info? ty with
  | none => simp [hq] at hinfo
  | some i =>
    simp [hq] at hinfo
    refine Kd.event_run hgd (v := .pointer (some ⟨W.heap.size, 0, none⟩)) (w1 := W.alloc (.cells v.cells ty)) ?_ (h _ _ (heap_alloc_new W _) rfl (by show (W.heap.push _).size = _; simp) ((Below.refl _ _).alloc (Nat.le_refl _) _))
    simp [execOp, ho, Instr.alloc, zeroValue, typeInfo, hq, hinfo.1, newVar, newRow, newObj]
    rfl
end
/-- A result that lies in a block that is known whole. -/
theorem ret_cell {P : Program} {fn : Func} {R : Ending → World → Prop} {a : Act} {w : World} {t : Tmp} {ty : TypeId} (h : fn.results = #[.cell t ty]) (hd : a.defers = []) (g : Nat) (hv : a.tmps.getD t undef = .pointer (some ⟨g, 0, none⟩)) (cells : Array Value) (t' : TypeId) (d : TypeDesc)
    (hg : w.heap[g]? = some (.cells cells t' (0, 0))) (hu : P.underlying ty = some d) (hdd : (match d with | .struct _ | .array _ _ => true | _ => false) = true) (hi : (P.info? ty).map (·.size) = some cells.size) (hR : R (.returned (.agg cells)) w) : bodyPost P fn R .ret a w := by
  refine bodyPost_ret (v := .agg cells) ?_ hd hR
  exact results_cell_row h a.tmps w g t' cells (0, 0) d hv hg hu hdd hi
/-! ### the plain functions -/
def rot (x : Int) (n : Nat) : Int := (word_Rot.f x n).getD 0
def xo (a b : Int) : Int := Go.bits .xor .u32 a b
def an (a b : Int) : Int := Go.bits .and .u32 a b
def S1 (e : Int) : Int := xo (xo (rot e 6) (rot e 11)) (rot e 25)
def S0 (a : Int) : Int := xo (xo (rot a 2) (rot a 13)) (rot a 22)
def ch (e f g : Int) : Int := xo (an e f) (an (xo IntKind.u32.max e) g)
def maj (a b c : Int) : Int := xo (xo (an a b) (an a c)) (an b c)
def tt (e f g z k x : Int) : Int := z + S1 e + ch e f g + k + x
def uu (a b c : Int) : Int := S0 a + maj a b c
def rnd (v : List Int) (k x : Int) : List Int :=
  match v with
  | [a, b, c, d, e, f, g, z] => [(tt e f g z k x + uu a b c) % 4294967296, a, b, c, (d + tt e f g z k x) % 4294967296, e, f, g]
  | _ => v
theorem rnd_length (v : List Int) (k x : Int) : (rnd v k x).length = v.length := by
  unfold rnd
  split <;> rfl
def sg0 (a : Int) : Int := xo (xo (rot a 7) (rot a 18)) (a / 8)
def sg1 (b : Int) : Int := xo (xo (rot b 17) (rot b 19)) (b / 1024)
def schedStep (w : List Int) : Int := (rd w ((w.length - 16 : Nat) : Int) + sg0 (rd w ((w.length - 15 : Nat) : Int)) + rd w ((w.length - 7 : Nat) : Int) + sg1 (rd w ((w.length - 2 : Nat) : Int))) % 4294967296
def sched (l : List Int) : Nat → List Int
  | 0 => l
  | n + 1 => sched l n ++ [schedStep (sched l n)]
theorem sched_length (l : List Int) (n : Nat) : (sched l n).length = l.length + n := by
  induction n with
  | zero => rfl
  | succ n ih => simp [sched, ih]; omega
theorem rot_some (x : Int) (n : Nat) (hn : n < 32) : word_Rot.f x n = some (rot x n) := by
  unfold rot
  have : ∃ r, word_Rot.f x n = some r := by
    unfold word_Rot.f bits_RotateLeft32.f
    have h0 : ∀ y : Int, 0 ≤ IntKind.u64.wrap y := fun y => by rw [IntKind.wrap_u64]; omega
    have h1 : ∀ y z : Int, 0 ≤ Go.bits .and .u64 y z := fun y z => by unfold Go.bits; exact h0 _
    rw [if_pos (h1 _ _), if_pos (h0 _)]
    exact ⟨_, rfl⟩
  obtain ⟨r, hr⟩ := this
  rw [hr]
  rfl
theorem rot_calls (x : Int) (n : Nat) (hn : n < 32) (w : World) : Calls Try.prog 53 #[.int .u32 x, .int .i64 n] w fun e w' => e = .returned (.int .u32 (rot x n)) ∧ ∃ m, w' = w.drewN m :=
  (word_Rot.calls x n _ w (rot_some x n hn)).mono fun e w' ⟨he, h⟩ => ⟨he, h.out⟩
set_option maxHeartbeats 8000000 in
set_option maxRecDepth 100000 in
theorem round_calls (v : List Int) (hv : v.length = 8) (k x : Int) (w : World) :
    Calls Try.prog 43 #[.agg (arr .u32 v), .int .u32 k, .int .u32 x] w fun e w' => e = .returned (.agg (arr .u32 (rnd v k x))) ∧ Below w.heap.size w w' := by
  obtain ⟨a0, a1, a2, a3, a4, a5, a6, a7, rfl⟩ : ∃ a0 a1 a2 a3 a4 a5 a6 a7, v = [a0, a1, a2, a3, a4, a5, a6, a7] := by
    match v, hv with
    | [a0, a1, a2, a3, a4, a5, a6, a7], _ => exact ⟨_, _, _, _, _, _, _, _, rfl⟩
  clear hv
  show Calls Try.prog 43 #[.agg #[.int .u32 a0, .int .u32 a1, .int .u32 a2, .int .u32 a3, .int .u32 a4, .int .u32 a5, .int .u32 a6, .int .u32 a7], .int .u32 k, .int .u32 x] w _
  go_enter Try.func43, Try.ntmps43
  go_wp2
  go_quiet (fail)
  go_wp2
  go_quiet ((go_at_call 53; exact quiet_add (rot_calls _ _ (by decide) _)))
  go_wp2_with (go_at_call 53; refine (rot_calls _ _ (by decide) _).mono ?_; rintro e w' ⟨rfl, m, rfl⟩)
  exact bodyPost_ret (v := .agg #[.int .u32 ((tt a4 a5 a6 a7 k x + uu a0 a1 a2) % 4294967296), .int .u32 a0, .int .u32 a1, .int .u32 a2, .int .u32 ((a3 + tt a4 a5 a6 a7 k x) % 4294967296), .int .u32 a4, .int .u32 a5, .int .u32 a6]) (by simp [results, Try.results43, go_sem, tt, uu, S0, S1, ch, maj, xo, an]) rfl ⟨rfl, by (repeat (first | (with_reducible exact Below.refl _ _) | refine Below.setCell ?_ (by simp) _ | refine pw_below_drewN ?_ _ | refine Below.alloc ?_ (by simp) _))⟩
theorem sched_next (l : List Int) (k : Nat) (hl : l.length = 16) (h16 : 16 ≤ k) (h64 : k < 64) :
    (sched l (k - 16) ++ List.replicate (64 - k) 0).set k (schedStep (sched l (k - 16))) = sched l (k + 1 - 16) ++ List.replicate (64 - (k + 1)) 0 := by
  have hll : (sched l (k - 16)).length = k := by rw [sched_length]; omega
  rw [show k + 1 - 16 = (k - 16) + 1 by omega, sched, List.set_append_right _ _ (by omega), hll, Nat.sub_self]
  obtain ⟨d, hd⟩ : ∃ d, 64 - k = d + 1 := ⟨64 - k - 1, by omega⟩
  rw [hd, List.replicate_succ, List.set_cons_zero, show 64 - (k + 1) = d by omega, List.append_assoc]
  rfl
theorem C_cells {k : IntKind} {w : World} {A : Option Addr} {xs : List Int} (h : Kd.C (Kd.int k) w A xs.length xs) (hp : 0 < xs.length) : ∃ ad, A = some ad ∧ ∀ (j : Nat) (v : Value), (xs.map (Value.int k))[j]? = some v → w.cell? (ad.add j) = some v := by
  obtain ⟨ad, e, hc⟩ := h.2.2 hp
  refine ⟨ad, e, fun j v hv => ?_⟩
  have hj : j < xs.length := by have := (List.getElem?_eq_some_iff.1 hv).1; simpa using this
  obtain ⟨cs, h1, h2, h3⟩ := hc j xs[j] (List.getElem?_eq_getElem hj)
  have e2 : cs = [.int k xs[j]] := h2
  subst e2
  have := h3 0 (.int k xs[j]) rfl
  have hv' : Value.int k xs[j] = v := by simpa [hj] using hv
  rw [← hv']
  rwa [Nat.add_zero, show (Kd.int k).sz = 1 from rfl, Nat.mul_one] at this
set_option maxHeartbeats 8000000 in
set_option maxRecDepth 100000 in
theorem schedule_calls (A : Option Addr) (c : Nat) (l : List Int) (hl : l.length = 16) (w : World) (hC : Kd.C (Kd.int .u32) w A l.length l) :
    Calls Try.prog 41 #[.slice A l.length c] w fun e w' => e = .returned (.agg (arr .u32 (sched l 48))) ∧ Below w.heap.size w w' := by
  have HC := Aside0.mk hC
  have HL := Aside0.mk hl
  clear hC hl
  go_enter Try.func41, Try.ntmps41
  go_wp2_with (first | ((with_reducible refine gate_dst (N := 2) rfl ?_); refine L_alloc rfl 68 rfl (.agg (arr .u32 (List.replicate 64 0))) 64 (by kernel_rfl) ?_; intro g2 w1 hb2 hg2 hs1 hB1; have HB2 := Aside0.mk hb2; have HBe1 := Aside0.mk hB1; have HG2 := Aside0.mk hg2; have HS1 := Aside0.mk hs1; clear hb2 hB1 hg2 hs1) | ((with_reducible refine gate_dst (N := 3) rfl ?_); refine L_alloc rfl 68 rfl (.agg (arr .u32 (List.replicate 64 0))) 64 (by kernel_rfl) ?_; intro g3 w2 hb3 hg3 hs2 hB2; have HB3 := Aside0.mk hb3; have HBe2 := Aside0.mk hB2; have HG3 := Aside0.mk hg3; have HS2 := Aside0.mk hs2; clear hb3 hB2 hg3 hs2) | ((with_reducible refine gate_builtin (b := .copy) (xs := #[.tmp 9, .tmp 10]) rfl ?_); refine wpList_copy_splice rfl (.tmp 9) (.tmp 10) 29 29 rfl 22 Try.underlying29 (by kernel_rfl) (some ⟨g3, 0, none⟩) A 64 64 l.length c rfl rfl g3 0 (List.replicate 64 (Value.int .u32 0)) 68 (by rw [HB3.out]; rfl) (l.map (Value.int .u32)) (by have := HL.out; rw [List.length_map, this]; rfl) (fun hp => ⟨rfl, ?c1⟩) (by have := HL.out; simp; omega) (by intro v hv; obtain ⟨x, _, rfl⟩ := List.mem_map.1 hv; rfl) g3 w2 (Below.refl _ _) (Nat.le_refl _) ?_; (case c1 => exact C_cells (Kd.C_below (Kd.C_below HC.out HBe1.out) (by rw [HG3.out.symm] at *; exact HBe2.out)) (by have := HL.out; omega)); intro w3 hb3 hB3; have HD3 := Aside0.mk hb3.out; have HBe3 := Aside0.mk hB3; clear hb3 hB3))
  have hlt23 : g2 < g3 := by have := HG3.out; have := HS1.out; omega
  have hK3 : w3.heap[g3]? = some (.cells (arr .u32 (sched l (16 - 16) ++ List.replicate (64 - 16) 0)) 68 (0, 0)) := by
    rw [HD3.out]
    have := HL.out
    simp [splice, arr, sched, this]
  have hK2 : w3.heap[g2]? = some (.cells (arr .u32 (List.replicate 64 0)) 68 (0, 0)) := by
    rw [HBe3.out.block g2 hlt23, HBe2.out.block g2 (by have := HG3.out; omega), HB2.out]
    rfl
  have hbase : Below w.heap.size w w3 := (HBe1.out.trans (HBe2.out.mono (by have := HG2.out; have := HS1.out; omega))).trans (HBe3.out.mono (by have := HG2.out; omega))
  have HINV := Aside0.mk (And.intro hK3 (And.intro hK2 hbase))
  have hg2w : w.heap.size ≤ g2 := Nat.le_of_eq HG2.out
  clear hK3 hK2 hbase HBe1 HBe2 HBe3 HD3 HB2 HB3 HG2 HG3 HS1 HS2
  go_loopw [4] (fun i wr => ∃ k : Nat, 16 ≤ k ∧ k ≤ 64 ∧ i = .int .i64 k ∧ Aside0 (wr.heap[g3]? = some (.cells (arr .u32 (sched l (k - 16) ++ List.replicate (64 - k) 0)) 68 (0, 0)) ∧ wr.heap[g2]? = some (.cells (arr .u32 (List.replicate 64 0)) 68 (0, 0)) ∧ Below w.heap.size w wr)) (fun i _ => 64 - (intOf i).toNat)
  case atStart => exact ⟨16, by omega, by omega, rfl, HINV⟩
  case round =>
    clear HINV
    obtain ⟨k, hk16, hk64, rfl, HR⟩ := hrel
    by_cases hlt : k < 64
    · have hlen : (sched l (k - 16) ++ List.replicate (64 - k) 0).length = 64 := by have := HL.out; rw [List.length_append, sched_length, List.length_replicate]; omega
      obtain ⟨hb3, hb2, hbe⟩ := HR.out
      have hcell : ∀ j, j < k → wr.cell? ⟨g3, j, none⟩ = some (.int .u32 (rd (sched l (k - 16)) (j : Nat))) := fun j hj => by
        have hj2 : j < (sched l (k - 16)).length := by have := HL.out; rw [sched_length]; omega
        rw [blk_cell hb3 j, arr_get _ _ _ (by omega)]
        congr 2
        unfold rd
        simp only [Int.toNat_natCast, List.getD_eq_getElem?_getD]
        rw [List.getElem?_append_left hj2]
      have hc15 := hcell (k - 15) (by omega)
      have hc2 := hcell (k - 2) (by omega)
      have hc16 := hcell (k - 16) (by omega)
      have hc7 := hcell (k - 7) (by omega)
      obtain ⟨x15, hx15⟩ : ∃ x, x = rd (sched l (k - 16)) ((k - 15 : Nat) : Int) := ⟨_, rfl⟩
      obtain ⟨x2, hx2⟩ : ∃ x, x = rd (sched l (k - 16)) ((k - 2 : Nat) : Int) := ⟨_, rfl⟩
      obtain ⟨x16, hx16⟩ : ∃ x, x = rd (sched l (k - 16)) ((k - 16 : Nat) : Int) := ⟨_, rfl⟩
      obtain ⟨x7, hx7⟩ : ∃ x, x = rd (sched l (k - 16)) ((k - 7 : Nat) : Int) := ⟨_, rfl⟩
      rw [← hx15] at hc15
      rw [← hx2] at hc2
      rw [← hx16] at hc16
      rw [← hx7] at hc7
      have hck : wr.cell? ⟨g3, k, none⟩ = some (.int .u32 (rd (sched l (k - 16) ++ List.replicate (64 - k) 0) (k : Nat))) := by rw [blk_cell hb3 k, arr_get _ _ _ (by omega)]
      have hfk : wr.frozen? ⟨g3, k, none⟩ = false := blk_frozen hb3 k
      have HX := Aside0.mk (And.intro hx15 (And.intro hx2 (And.intro hx16 hx7)))
      have HLEN := Aside0.mk hlen
      clear hcell hb3 hb2 hbe hx15 hx2 hx16 hx7 hlen
      go_wp2
      go_quiet (fail)
      go_wp2_with (go_at_call 53; refine (rot_calls _ _ (by decide) _).mono ?_; rintro e w' ⟨rfl, m, rfl⟩)
      go_region
      go_wp2
      go_roundw
      case rel =>
        refine ⟨k + 1, by omega, by omega, by go_num, ⟨?_⟩⟩
        obtain ⟨hb3, hb2, hbe⟩ := HR.out
        obtain ⟨e15, e2, e16, e7⟩ := HX.out
        refine ⟨?_, ?_, ?_⟩
        · refine (blk_set (w := wr.drewN _) hb3 k _).trans ?_
          rw [arr_set, ← sched_next l k HL.out hk16 hlt]
          unfold schedStep
          have hll : (sched l (k - 16)).length = k := by have := HL.out; rw [sched_length]; omega
          rw [hll, ← e15, ← e2, ← e16, ← e7]
          rfl
        · exact (blk_far (w := wr.drewN _) hb2 (p := ⟨g3, k, none⟩) (Nat.ne_of_lt hlt23) _)
        · exact (pw_below_drewN hbe _).setCell (Nat.le_trans hg2w (Nat.le_of_lt hlt23)) _
      case measure => simp [intOf]; omega
    · obtain rfl : k = 64 := by omega
      have HR' : wr.heap[g3]? = some (.cells (arr .u32 (sched l 48)) 68 (0, 0)) ∧ wr.heap[g2]? = some (.cells (arr .u32 (List.replicate 64 0)) 68 (0, 0)) ∧ Below w.heap.size w wr := by
        have := HR.out
        simpa using this
      have HR' := Aside0.mk HR'
      clear HR
      go_wp2_with (first | ((with_reducible refine gate_dst (N := 55) rfl ?_); refine L_load rfl 68 (.tmp 3) rfl g3 rfl 68 (arr .u32 (sched l 48)) _ HR'.out.1 Try.underlying68 rfl (by rw [arr_size, sched_length, HL.out]; kernel_rfl) ?_) | (refine L_store rfl rfl 68 (.tmp 2) (.tmp 55) rfl g2 (arr .u32 (sched l 48)) rfl rfl _ 68 HR'.out.2.1 (by rw [arr_size, arr_size, sched_length, HL.out]; rfl) (by rw [arr_size, sched_length, HL.out]; kernel_rfl) (arr_one _ _) ?_; intro w9 hb9 hU))
      exact ret_cell rfl rfl g2 rfl (arr .u32 (sched l 48)) 68 _ hb9 Try.underlying68 rfl (by rw [arr_size, sched_length, HL.out]; kernel_rfl) ⟨rfl, hU.below HR'.out.2.2 hg2w⟩
end Go.Proofs.Ythpkbamhpmgffaa.Sha
