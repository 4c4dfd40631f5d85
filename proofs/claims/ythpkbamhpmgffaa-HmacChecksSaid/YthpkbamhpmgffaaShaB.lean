/- Hand-written walks and plain lemmas of sha, hmac, keys: what each Go function comes to. No condition. -/
import Derived.Test.YthpkbamhpmgffaaShaA
namespace Go.Proofs.Ythpkbamhpmgffaa.Sha
open Go.RowKit Go.Proofs.YthpkbamhpmgffaaW.Hand Go.Proofs.YthpkbamhpmgffaaW.PrintWords Go.Proofs.YthpkbamhpmgffaaW.PrintLast Go.Proofs.YthpkbamhpmgffaaW.PrintMore Go.Proofs.Ythpkbamhpmgffaa.PF02
set_option linter.unusedVariables false
set_option linter.unusedSimpArgs false
/-- A region that draws its order: what only reads is walked first, in the text's order; then its tail. -/
theorem region_tail {P : Program} {id : Nat} {Q : Exit → Act → World → Prop} {a : Act} {w : World} {l : List Oper} (n : Nat) (hm : P.follows .mixedOrders = true) (hB : Region.lexTailB .any l.toArray n = true)
    (h : ∀ W, W.heap = w.heap → Drawn0 w W → wpStill P l.toArray W (fun a' => wpList P l.toArray Q (l.drop n) a' W) (l.take n) a) : (Code.region id l.toArray true).wp P Q a w :=
  wp_region_still_tail n hm hB (h (w.drewN 1) rfl ⟨⟨1, rfl⟩⟩)
section
variable {P : Program} {ops : Array Oper} {rest : List Oper} {o : Oper} {a : Act} {W : World} {Q : Act → Prop}
theorem S_val {v : Value} (hgd : o.guard = none) (hrun : (execOp a.eval o).run P W = .ok (.value v) W) (h : wpStill P ops W Q rest (a.put o.dst v)) : wpStill P ops W Q (o :: rest) a := by
  unfold wpStill
  rw [if_pos (by unfold Region.wanted; rw [hgd])]
  unfold Oper.still
  rw [hrun]
  exact ⟨rfl, h⟩
theorem S_load (hgd : o.guard = none) (ty : TypeId) (x : Operand) (ho : o.op = .load ty x) (g : Nat) (hx : a.eval x = .pointer (some ⟨g, 0, none⟩)) (t : TypeId) (cells : Array Value) (d : TypeDesc)
    (hg : W.heap[g]? = some (.cells cells t (0, 0))) (hu : P.underlying ty = some d) (hd : (match d with | .struct _ | .array _ _ => true | _ => false) = true) (hi : (P.info? ty).map (·.size) = some cells.size)
    (h : wpStill P ops W Q rest (a.put o.dst (.agg cells))) : wpStill P ops W Q (o :: rest) a :=
  S_val hgd (v := .agg cells) (by unfold execOp; simp only [ho, hx, Instr.loadAt, Instr.sureAddr, Sem.run_bind, Sem.run_pure, Result.andThen_ok, run_loadVar_row W g t ty cells (0, 0) d hg hu hd hi]) h
end
section
variable {P : Program} {ops : Array Oper} {rest : List Oper} {o : Oper} {a : Act} {W : World} {Q : Exit → Act → World → Prop}
theorem L_box (hgd : o.guard = none) (ty : TypeId) (x : Operand) (ho : o.op = .box ty x) (v : Value) (hx : a.eval x = v)
    (h : ∀ g w1, w1.heap[g]? = some (.cells v.cells ty (0, 0)) → W.heap.size = g → w1.heap.size = g + 1 → Below W.heap.size W w1 → wpList P ops Q rest (a.put o.dst (.pointer (some ⟨g, 0, none⟩))) w1) : wpList P ops Q (o :: rest) a W := by
  refine Kd.event_run hgd (v := .pointer (some ⟨W.heap.size, 0, none⟩)) (w1 := W.alloc (.cells v.cells ty)) ?_ (h _ _ (heap_alloc_new W _) rfl (by show (W.heap.push _).size = _; simp) ((Below.refl _ _).alloc (Nat.le_refl _) _))
  simp [execOp, ho, hx, Instr.box, newVar, newRow, newObj]
  rfl
end
theorem ret_cell2 {P : Program} {fn : Func} {R : Ending → World → Prop} {a : Act} {w : World} {t u : Tmp} {ty : TypeId} (h : fn.results = #[.cell t ty, .tmp u]) (hd : a.defers = []) (g : Nat) (hv : a.tmps.getD t undef = .pointer (some ⟨g, 0, none⟩)) (x : Value) (hx : a.tmps.getD u undef = x) (cells : Array Value) (t' : TypeId) (d : TypeDesc)
    (hg : w.heap[g]? = some (.cells cells t' (0, 0))) (hu : P.underlying ty = some d) (hdd : (match d with | .struct _ | .array _ _ => true | _ => false) = true) (hi : (P.info? ty).map (·.size) = some cells.size) (hR : R (.returned (.tuple #[.agg cells, x])) w) : bodyPost P fn R .ret a w := by
  refine bodyPost_ret (v := .tuple #[.agg cells, x]) ?_ hd hR
  rw [results_cell_tmp h, hv, hx]
  simp [asAddr, Result.andThen, run_loadVar_row w g t' ty cells (0, 0) d hg hu hdd hi]
theorem L_build {P : Program} {ops : Array Oper} {rest : List Oper} {o : Oper} {a : Act} {w : World} {Q : Exit → Act → World → Prop} (hg : o.guard = none) (t : TypeId) (parts : Array (Nat × Operand)) (ho : o.op = .build t parts) (cells : Array Value)
    (hf : P.built t (parts.map fun (i, x) => (i, a.eval x)).toList = some cells) (h : wpList P ops Q rest (a.put o.dst (.agg cells)) w) : wpList P ops Q (o :: rest) a w := by
  refine wpList_build hg t parts ho (by rw [hf]; rfl) ?_
  rw [hf]
  exact h
def KS : List Int := [1116352408, 1899447441, 3049323471, 3921009573, 961987163, 1508970993, 2453635748, 2870763221, 3624381080, 310598401, 607225278, 1426881987, 1925078388, 2162078206, 2614888103, 3248222580, 3835390401, 4022224774, 264347078, 604807628, 770255983, 1249150122, 1555081692, 1996064986, 2554220882, 2821834349, 2952996808, 3210313671, 3336571891, 3584528711, 113926993, 338241895, 666307205, 773529912, 1294757372, 1396182291, 1695183700, 1986661051, 2177026350, 2456956037, 2730485921, 2820302411, 3259730800, 3345764771, 3516065817, 3600352804, 4094571909, 275423344, 430227734, 506948616, 659060556, 883997877, 958139571, 1322822218, 1537002063, 1747873779, 1955562222, 2024104815, 2227730452, 2361852424, 2428436474, 2756734187, 3204031479, 3329325298]
def FS : List Int := [1779033703, 3144134277, 1013904242, 2773480762, 1359893119, 2600822924, 528734635, 1541459225]
set_option maxHeartbeats 8000000 in
set_option maxRecDepth 100000 in
theorem constants_calls (w : World) : Calls Try.prog 42 #[] w fun e w' => e = .returned (.agg (arr .u32 KS)) ∧ Below w.heap.size w w' := by
  go_enter Try.func42, Try.ntmps42
  go_wp2_with (first | ((with_reducible refine gate_dst (N := 0) rfl ?_); refine L_alloc rfl 68 rfl (.agg (arr .u32 (List.replicate 64 0))) 64 (by kernel_rfl) ?_; intro g0 w1 hb0 hg0 hs0 hl0; have HB0 := Aside0.mk hb0; clear hb0; have HG0 := Aside0.mk hg0; clear hg0; have HS0 := Aside0.mk hs0; clear hs0; have HL0 := Aside0.mk hl0; clear hl0) | ((with_reducible refine gate_dst (N := 1) rfl ?_); refine L_build rfl 68 _ rfl (arr .u32 KS) (by kernel_rfl) ?_) | (refine L_store rfl rfl 68 (.tmp 0) (.tmp 1) rfl g0 (arr .u32 KS) rfl rfl _ 68 HB0.out (by rfl) (by kernel_rfl) (arr_one _ _) ?_; intro w9 hb9 hU; have HB9 := Aside0.mk hb9; clear hb9; have HU := Aside0.mk hU; clear hU))
  exact ret_cell rfl rfl g0 rfl (arr .u32 KS) 68 _ HB9.out Try.underlying68 rfl (by kernel_rfl) ⟨rfl, HU.out.below HL0.out (Nat.le_of_eq HG0.out)⟩
set_option maxHeartbeats 8000000 in
set_option maxRecDepth 100000 in
theorem First_calls (w : World) : Calls Try.prog 16 #[] w fun e w' => e = .returned (.agg (arr .u32 FS)) ∧ Below w.heap.size w w' := by
  go_enter Try.func16, Try.ntmps16
  go_wp2_with (first | ((with_reducible refine gate_dst (N := 0) rfl ?_); refine L_alloc rfl 23 rfl (.agg (arr .u32 (List.replicate 8 0))) 8 (by kernel_rfl) ?_; intro g0 w1 hb0 hg0 hs0 hl0; have HB0 := Aside0.mk hb0; clear hb0; have HG0 := Aside0.mk hg0; clear hg0; have HS0 := Aside0.mk hs0; clear hs0; have HL0 := Aside0.mk hl0; clear hl0) | ((with_reducible refine gate_dst (N := 1) rfl ?_); refine L_build rfl 23 _ rfl (arr .u32 FS) (by kernel_rfl) ?_) | (refine L_store rfl rfl 23 (.tmp 0) (.tmp 1) rfl g0 (arr .u32 FS) rfl rfl _ 23 HB0.out (by rfl) (by kernel_rfl) (arr_one _ _) ?_; intro w9 hb9 hU; have HB9 := Aside0.mk hb9; clear hb9; have HU := Aside0.mk hU; clear hU))
  exact ret_cell rfl rfl g0 rfl (arr .u32 FS) 23 _ HB9.out Try.underlying23 rfl (by kernel_rfl) ⟨rfl, HU.out.below HL0.out (Nat.le_of_eq HG0.out)⟩
end Go.Proofs.Ythpkbamhpmgffaa.Sha
