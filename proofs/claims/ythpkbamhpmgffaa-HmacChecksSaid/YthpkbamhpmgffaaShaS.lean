/- Hand-written walks and plain lemmas of sha, hmac, keys: what each Go function comes to. No condition. -/
import Derived.Test.YthpkbamhpmgffaaShaR
namespace Go.Proofs.Ythpkbamhpmgffaa.Sha
open Go.RowKit Go.Proofs.YthpkbamhpmgffaaW.Hand Go.Proofs.YthpkbamhpmgffaaW.PrintWords Go.Proofs.YthpkbamhpmgffaaW.PrintLast Go.Proofs.YthpkbamhpmgffaaW.PrintMore Go.Proofs.Ythpkbamhpmgffaa.PF02 Go.Proofs.Ythpkbamhpmgffaa.Base Go.Proofs.Ythpkbamhpmgffaa.LF02
set_option linter.unusedVariables false
set_option linter.unusedSimpArgs false

def turnL (own : List Int) (x : Int) : List Int := own.map fun b => Go.bits .xor .u8 b x
theorem turnL_length (own : List Int) (x : Int) : (turnL own x).length = own.length := by simp [turnL]
theorem bits_u8 (op : BinOp) (a b : Int) : 0 ≤ Go.bits op .u8 a b ∧ Go.bits op .u8 a b ≤ 255 := by
  unfold Go.bits
  cases op <;> simp only [IntKind.wrap_u8] <;> omega
theorem turnL_bytes (own : List Int) (x : Int) : Bytes (turnL own x) := by
  intro y hy
  unfold turnL at hy
  obtain ⟨b, _, rfl⟩ := List.mem_map.1 hy
  exact bits_u8 _ _ _
theorem L_make {P : Program} {ops : Array Oper} {rest : List Oper} {o : Oper} {a : Act} {W : World} {Q : Exit → Act → World → Prop} (hgd : o.guard = none) (t : TypeId) (x y : Operand) (ho : o.op = .makeSlice t x y) (n : Nat) (hx : a.eval x = .int .i64 n) (hy : a.eval y = .int .i64 n) (ht : P.underlying t = some (.slice 5)) (hinfo : (P.info? 5).map (fun i => (i.zero, i.size, i.bytes)) = some (some (.int .u8 0), 1, 1)) (hn : n ≤ 1000000)
    (h : ∀ g w1, w1.heap[g]? = some (.cells (arr .u8 (List.replicate n 0)) 5 (0, 0)) → W.heap.size = g → w1.heap.size = g + 1 → Below W.heap.size W w1 → wpList P ops Q rest (a.put o.dst (.slice (some ⟨g, 0, none⟩) n n)) w1) : wpList P ops Q (o :: rest) a W := by
  obtain ⟨i0, hi, hzz⟩ := Option.map_eq_some_iff.1 hinfo
  simp only [Prod.mk.injEq] at hzz
  obtain ⟨hz0, hz1, hz2⟩ := hzz
  have hr := run_make (P := P) W t 5 i0 (.int .u8 0) ht hi hz0 .i64 .i64 (n : Int) (n : Int) (by omega) (by omega) (by rw [hz2]; omega) (by omega)
  simp only [Int.toNat_natCast, hz1, Nat.mul_one] at hr
  have e : madeCells (Value.int .u8 0).cells n = arr .u8 (List.replicate n 0) := by
    apply Array.ext_getElem?
    intro i
    unfold madeCells arr
    by_cases hi : i < n
    · simp [hi, Value.cells, Nat.mod_one]
    · rw [Array.getElem?_eq_none (by simp; omega), Array.getElem?_eq_none (by simp; omega)]
  rw [e] at hr
  refine Kd.event_run hgd (v := .slice (some ⟨W.heap.size, 0, none⟩) n n) (w1 := W.alloc (.cells (arr .u8 (List.replicate n 0)) 5)) ?_ (h _ _ (heap_alloc_new W _) rfl (by show (W.heap.push _).size = _; simp) ((Below.refl _ _).alloc (Nat.le_refl _) _))
  simp [execOp, ho, hx, hy, hr]
theorem run_index_arr {P : Program} (W : World) (t e : TypeId) (n : Nat) (k : IntKind) (ht : P.underlying t = some (.array n e)) (he : P.underlying e = some (.int k)) (hsz : (P.info? e).map (·.size) = some 1) (xs : List Int) (hx : xs.length = n) (i : Nat) (hi : i < n) :
    (Instr.index t (.agg (arr k xs)) (.int .i64 i)).run P W = .ok (.int k (rd xs (i : Nat))) W := by
  have hsz' : (sizeOf e).run P W = .ok 1 W := by
    cases hq : P.info? e with
    | none => simp [hq] at hsz
    | some ii =>
      have : ii.size = 1 := by simpa [hq] using hsz
      simp [sizeOf, typeInfo, hq, this]
  have hg := arr_get k xs i (by omega)
  simp only [Instr.index, asIntOf, Sem.run_bind, Sem.run_pure, Result.andThen_ok, run_underlying ht]
  rw [if_pos (by omega)]
  simp [Sem.run_bind, hsz', part, isAgg, run_underlying he, hg]
theorem turn_next (own : List Int) (x : Int) (k : Nat) (hk : k < own.length) : ((turnL own x).take k ++ List.replicate (own.length - k) 0).set k (Go.bits .xor .u8 (rd own (k : Nat)) x) = (turnL own x).take (k + 1) ++ List.replicate (own.length - (k + 1)) 0 := by
  have hl : ((turnL own x).take k).length = k := by rw [List.length_take, turnL_length]; omega
  have hk' : k < (turnL own x).length := by rw [turnL_length]; exact hk
  rw [List.set_append_right _ _ (by omega), hl, Nat.sub_self, List.take_succ_eq_append_getElem hk']
  obtain ⟨d, hd⟩ : ∃ d, own.length - k = d + 1 := ⟨own.length - k - 1, by omega⟩
  rw [hd, List.replicate_succ, List.set_cons_zero, show own.length - (k + 1) = d by omega, List.append_assoc]
  have e : (turnL own x)[k] = Go.bits .xor .u8 own[k] x := by simp [turnL]
  rw [e, rd_lt hk]
  rfl
set_option maxHeartbeats 8000000 in
set_option maxRecDepth 100000 in
theorem turned_calls (own : List Int) (hl : own.length = 64) (x : Int) (w : World) : Calls Try.prog 51 #[.agg (arr .u8 own), .int .u8 x] w fun e w' => ∃ A, e = .returned (.slice A 64 64) ∧ Kd.C (Kd.int .u8) w' A (turnL own x).length (turnL own x) ∧ Below w.heap.size w w' := by
  have HLN := Aside0.mk hl
  clear hl
  have hidx : ∀ (W : World) (i : Nat), i < 64 → (Instr.index 53 (.agg (arr .u8 own)) (.int .i64 i)).run Try.prog W = .ok (.int .u8 (rd own (i : Nat))) W := fun W i hi => run_index_arr W 53 5 64 .u8 Try.underlying53 Try.underlying5 (by kernel_rfl) own HLN.out i hi
  have HIDX := Aside0.mk hidx
  clear hidx
  go_enter Try.func51, Try.ntmps51
  go_wp2_with (first | ((with_reducible refine gate_dst (N := 2) rfl ?_); refine L_box rfl 53 (.tmp 0) rfl (.agg (arr .u8 own)) rfl ?_; intro g2 w1 hb2 hg2 hs2 hl2; have HB2 := Aside0.mk hb2; clear hb2; have HG2 := Aside0.mk hg2; clear hg2; have HS2 := Aside0.mk hs2; clear hs2; have HL2 := Aside0.mk hl2; clear hl2) | ((with_reducible refine gate_dst (N := 8) rfl ?_); refine L_make rfl 24 (.const (.int .i64 64)) (.const (.int .i64 64)) rfl 64 rfl rfl Try.underlying24 info5 (by omega) ?_; intro g8 w2 hb8 hg8 hs8 hl8; have HB8 := Aside0.mk hb8; clear hb8; have HG8 := Aside0.mk hg8; clear hg8; have HS8 := Aside0.mk hs8; clear hs8; have HL8 := Aside0.mk hl8; clear hl8) | ((with_reducible refine gate_dst (N := 9) rfl ?_); refine L_load rfl 53 (.tmp 2) rfl g2 rfl 53 (arr .u8 own) _ ((HL8.out.block g2 (blk_lt HB2.out)).trans HB2.out) Try.underlying53 rfl (by rw [arr_size, HLN.out]; kernel_rfl) ?_))
  have hI : Aside0 (w2.heap[g8]? = some (.cells (arr .u8 ((turnL own x).take 0 ++ List.replicate (64 - 0) 0)) 5 (0, 0)) ∧ Below w.heap.size w w2 ∧ w.heap.size ≤ g8) := ⟨HB8.out, below_step HL2.out HL8.out, by have := HG8.out; have := HL2.out.size; omega⟩
  clear HB2 HG2 HS2 HL2 HB8 HG8 HS8 HL8
  go_loopw [10] (fun i wr => ∃ k : Nat, k ≤ 64 ∧ i = .int .i64 k ∧ Aside0 (wr.heap[g8]? = some (.cells (arr .u8 ((turnL own x).take k ++ List.replicate (64 - k) 0)) 5 (0, 0)) ∧ Below w.heap.size w wr ∧ w.heap.size ≤ g8)) (fun i _ => 64 - (intOf i).toNat)
  case atStart => exact ⟨0, by omega, rfl, hI⟩
  case round =>
    clear hI
    obtain ⟨k, hk, rfl, HR⟩ := hrel
    by_cases hlt : k < 64
    · have hix := fun W => HIDX.out W k hlt
      obtain ⟨v, hv⟩ : ∃ v, v = rd own (k : Nat) := ⟨_, rfl⟩
      rw [← hv] at hix
      have hck : wr.cell? ⟨g8, k, none⟩ = some (.int .u8 (rd ((turnL own x).take k ++ List.replicate (64 - k) 0) (k : Nat))) := by
        rw [blk_cell HR.out.1 k, arr_get _ _ _ (by rw [List.length_append, List.length_take, List.length_replicate, turnL_length, HLN.out]; omega)]
      have hfk : wr.frozen? ⟨g8, k, none⟩ = false := blk_frozen HR.out.1 k
      have HV := Aside0.mk hv
      clear hv
      go_wp2
      go_roundw
      case rel =>
        refine ⟨k + 1, by omega, by go_num, ⟨?_, HR.out.2.1.setCell HR.out.2.2 _, HR.out.2.2⟩⟩
        refine (blk_set HR.out.1 k _).trans ?_
        have := turn_next own x k (by rw [HLN.out]; exact hlt)
        rw [HLN.out] at this
        rw [arr_set, HV.out, this]
      case measure => simp [intOf]; omega
    · obtain rfl : k = 64 := by omega
      have HR' : wr.heap[g8]? = some (.cells (arr .u8 (turnL own x)) 5 (0, 0)) := by
        have := HR.out.1
        rw [List.take_of_length_le (by rw [turnL_length, HLN.out]; omega)] at this
        simpa using this
      have HBE := Aside0.mk HR.out.2.1
      have HX := Aside0.mk HR'
      clear HR' HR
      go_wp2
      go_ret
      exact ⟨some ⟨g8, 0, none⟩, rfl, C_arr HX.out (by rw [turnL_length, HLN.out]; omega), HBE.out⟩
end Go.Proofs.Ythpkbamhpmgffaa.Sha
