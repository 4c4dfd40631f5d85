/- The row of RosterFinds, out of the hand-written walk of the law's own function. No condition beside those that the row itself gives. -/
import Derived.Test.YtdbfclfglpbpmaaRows
import Derived.Test.YtdbfclfglpbpmaaRfB
import Derived.Test.YtdbfclfglpbpmaaOpens
import Derived.Test.YtdbfclfglpbpmaaWSized
import Derived.WalkKit
import Derived.ProofKit
import Derived.OpenShut
import Derived.ShutString
import Derived.ChangeOld
import Derived.Below
import Derived.SizedLaws
namespace Go.Proofs.Ytdbfclfglpbpmaa.rosterFinds
open Go.ChangeShapes Go.WideShapes Go.ChangeAt Go.RowKit Go.Joins
open Go.ChangeMaps (open_string shut_string)
open Go.Proofs.Ytdbfclfglpbpmaa.PF25F Go.Proofs.YtdbfclfglpbpmaaW.PrintWords Go.Proofs.YtdbfclfglpbpmaaW.Opens Go.Proofs.Ytdbfclfglpbpmaa.Base
set_option linter.unusedVariables false
set_option linter.unusedSimpArgs false
theorem own : ownKnob Try.prog.godebug = none := by kernel_rfl
theorem laidOut : laidOutB Try.prog = true := by kernel_rfl
def WF115 (x : S115) : Prop := (Lit.int .i64 x.f0).wf = true ∧ (Lit.int .i64 x.f1).wf = true ∧ True ∧ (Lit.int .i64 x.f3).wf = true
theorem opens3 (W : World) : Opens Try.prog W (Kd.int .i64) (fun x => (Lit.int .i64 x).wf = true) 3 := Opens.int Try.underlying3
theorem opens4 (W : World) : Opens Try.prog W Kd.bool (fun _ => True) 4 := Opens.bool Try.underlying4
theorem opens115 (W : World) : Opens Try.prog W k115 WF115 115 := by
  intro H enc fuel cs y h
  obtain ⟨hl, n, he⟩ := struct_each Try.underlying115 h
  have hl2 : cs.length = 4 := hl.trans (by kernel_rfl)
  obtain ⟨z0, e0⟩ := he 0 _ rfl
  have e0_ : DataW.trod enc Try.prog W 0 (fun _ => true) true n 3 ((cs.drop 0).take (Try.prog.cellsOf 3)) = some z0 := e0
  obtain ⟨x0, k0_, w0⟩ := opens3 W enc n _ _ e0_
  rw [show Try.prog.cellsOf 3 = 1 from by kernel_rfl] at k0_
  obtain ⟨z1, e1⟩ := he 1 _ rfl
  have e1_ : DataW.trod enc Try.prog W 0 (fun _ => true) true n 3 ((cs.drop 1).take (Try.prog.cellsOf 3)) = some z1 := e1
  obtain ⟨x1, k1_, w1⟩ := opens3 W enc n _ _ e1_
  rw [show Try.prog.cellsOf 3 = 1 from by kernel_rfl] at k1_
  obtain ⟨z2, e2⟩ := he 2 _ rfl
  have e2_ : DataW.trod enc Try.prog W 0 (fun _ => true) true n 4 ((cs.drop 2).take (Try.prog.cellsOf 4)) = some z2 := e2
  obtain ⟨x2, k2_, w2⟩ := opens4 W enc n _ _ e2_
  rw [show Try.prog.cellsOf 4 = 1 from by kernel_rfl] at k2_
  obtain ⟨z3, e3⟩ := he 3 _ rfl
  have e3_ : DataW.trod enc Try.prog W 0 (fun _ => true) true n 3 ((cs.drop 3).take (Try.prog.cellsOf 3)) = some z3 := e3
  obtain ⟨x3, k3_, w3⟩ := opens3 W enc n _ _ e3_
  rw [show Try.prog.cellsOf 3 = 1 from by kernel_rfl] at k3_
  have k0__ : (Kd.int .i64).K W x0 (cs.take 1) := by
    have hq : cs.take 1 = (cs.drop 0).take 1 := by
      try simp only [List.drop_drop, List.drop_zero, Nat.reduceAdd, Nat.reduceMul]
      first | done | rfl | exact (List.take_of_length_le (by simp only [List.length_drop]; omega)).symm | exact (List.take_of_length_le (by omega)).symm
    rw [hq]
    exact k0_
  have k1__ : (Kd.int .i64).K W x1 ((cs.drop 1).take 1) := by
    have hq : (cs.drop 1).take 1 = (cs.drop 1).take 1 := by
      try simp only [List.drop_drop, List.drop_zero, Nat.reduceAdd, Nat.reduceMul]
      first | done | rfl | exact (List.take_of_length_le (by simp only [List.length_drop]; omega)).symm | exact (List.take_of_length_le (by omega)).symm
    rw [hq]
    exact k1_
  have k2__ : Kd.bool.K W x2 (((cs.drop 1).drop 1).take 1) := by
    have hq : ((cs.drop 1).drop 1).take 1 = (cs.drop 2).take 1 := by
      try simp only [List.drop_drop, List.drop_zero, Nat.reduceAdd, Nat.reduceMul]
      first | done | rfl | exact (List.take_of_length_le (by simp only [List.length_drop]; omega)).symm | exact (List.take_of_length_le (by omega)).symm
    rw [hq]
    exact k2_
  have k3__ : (Kd.int .i64).K W x3 ((((cs.drop 1).drop 1).drop 1)) := by
    have hq : (((cs.drop 1).drop 1).drop 1) = (cs.drop 3).take 1 := by
      try simp only [List.drop_drop, List.drop_zero, Nat.reduceAdd, Nat.reduceMul]
      first | done | rfl | exact (List.take_of_length_le (by simp only [List.length_drop]; omega)).symm | exact (List.take_of_length_le (by omega)).symm
    rw [hq]
    exact k3_
  exact ⟨⟨x0, x1, x2, x3⟩, (show k115.K W ⟨x0, x1, x2, x3⟩ cs from (pair_K 1 k0__ (pair_K 1 k1__ (pair_K 1 k2__ k3__)))), w0, w1, w2, w3⟩
theorem opens110 (W : World) : Opens Try.prog W (Kd.slice 115 k115) (fun xs => xs.length ≤ maxLen ∧ ∀ x_ ∈ xs, WF115 x_) 110 := Opens.slice Try.underlying110 (by kernel_rfl) (opens115 W)
/-- An array of whole numbers that came in: a list. -/
theorem arg_arr {P : Program} {W : World} {H : Type} {enc : TypeId × Value → H} {t e : TypeId} {n : Nat} {k : IntKind} {cs : Array Value} {D : DataW H} {p : List MemPlace} (hu : P.underlying t = some (.array n e)) (he : P.underlying e = some (.int k)) (hc1 : P.cellsOf e = 1) (hcn : P.cellsOf t = n)
    (h : DataW.Trod enc P W 0 (fun _ => true) true t (.agg cs) D p) : ∃ xs : List Int, xs.length = n ∧ cs = (xs.map (Value.int k)).toArray ∧ ∀ x ∈ xs, (Lit.int k x).wf = true := by
  obtain ⟨fuel, hf⟩ := h
  obtain ⟨hl, m, hm⟩ := array_each hu hf
  have hl' : cs.toList.length = n := hl.trans hcn
  have each : ∀ i, i < n → ∃ x, cs.toList[i]? = some (.int k x) ∧ (Lit.int k x).wf = true := by
    intro i hi
    obtain ⟨z, hz⟩ := hm i hi
    obtain ⟨x, hx, hwf⟩ := Opens.int he (W := W) enc m _ _ hz
    rw [hc1, Nat.mul_one] at hx
    have hx' : (cs.toList.drop i).take 1 = [.int k x] := hx
    refine ⟨x, ?_, hwf⟩
    have h0 : ((cs.toList.drop i).take 1)[0]? = some (.int k x) := by rw [hx']; rfl
    rw [List.getElem?_take_of_lt (by omega), List.getElem?_drop, Nat.add_zero] at h0
    exact h0
  obtain ⟨xs, hxl, hxs⟩ := exists_list (fun i x => cs.toList[i]? = some (.int k x) ∧ (Lit.int k x).wf = true) n each
  refine ⟨xs, hxl, ?_, fun x hx => ?_⟩
  · apply Array.toList_inj.1
    refine List.ext_getElem? (fun i => ?_)
    rcases Nat.lt_or_ge i n with hi | hi
    · obtain ⟨h1, _⟩ := hxs i xs[i] (List.getElem?_eq_getElem (by omega))
      rw [h1]
      simp [hxl, hi]
    · rw [List.getElem?_eq_none (by omega), List.getElem?_eq_none (by simp; omega)]
  · obtain ⟨i, hi⟩ := List.getElem?_of_mem hx
    exact (hxs i x hi).2
set_option maxRecDepth 100000 in
theorem lifted (os : Os) (started : os.Started) (H : Type) (enc : TypeId × Value → H) :
    ReturnsInHanded {} Try.checked os 14 .any (Rows.rosterFindsSpec.pre6 enc Try.prog Try.f14 Rows.rosterFindsRow.domain false) (Rows.rosterFindsSpec.post enc Try.prog Try.f14 false true false false) := by
  refine returnsInHanded_of_change_sized (C := Try.checked) own started (by kernel_rfl) Try.func14
    (ChangeSpec.witness6 (enc := enc) (C := Try.checked) false ⟨#[], #[.agg #[.int .u8 0, .int .u8 0, .int .u8 0, .int .u8 0, .int .u8 0, .int .u8 0, .int .u8 0, .int .u8 0, .int .u8 0, .int .u8 0, .int .u8 0, .int .u8 0, .int .u8 0, .int .u8 0, .int .u8 0, .int .u8 0, .int .u8 0, .int .u8 0, .int .u8 0, .int .u8 0, .int .u8 0, .int .u8 0, .int .u8 0, .int .u8 0, .int .u8 0, .int .u8 0, .int .u8 0, .int .u8 0, .int .u8 0, .int .u8 0, .int .u8 0, .int .u8 0], .slice none 0 0, .int .i64 0], []⟩ 8 (by kernel_rfl) (by kernel_rfl) (by kernel_rfl) (by kernel_rfl)) ?_
  intro W base args ds gs before hval0 hW hcnd hsz0 _
  have hval : ∀ (j : Nat) t v, Try.f14.params[j]? = some t → args[j]? = some v → Value.okWide Try.prog W .any base t v := hval0
  have hW' := hW
  obtain ⟨p, q, hA0, hV, rfl, hfz, hnd⟩ := hW
  have hA : DataW.TrodAll enc Try.prog W 0 (fun _ => true) true Try.f14.params.toList args.toList ds p := hA0
  rw [Try.params14] at hA hval
  obtain ⟨v0, vs0, d0, ds0, p0, q0, hargs, rfl, rfl, h0, r0⟩ := trodAll_cons hA
  obtain ⟨v1, vs1, d1, ds1, p1, q1, rfl, rfl, rfl, h1, r1⟩ := trodAll_cons r0
  obtain ⟨v2, vs2, d2, ds2, p2, q2, rfl, rfl, rfl, h2, r2⟩ := trodAll_cons r1
  obtain ⟨rfl, rfl, rfl⟩ := trodAll_nil r2
  obtain rfl : args = #[v0, v1, v2] := by cases args; simp_all
  obtain ⟨rfl, rfl⟩ := trodVars_none hV
  obtain ⟨cs0, rfl, hs0⟩ := okWide_array Try.underlying130 (hval 0 130 v0 rfl rfl)
  have k0 := h0
  have lt0 : ∀ x ∈ p0, x.block < W.heap.size := by obtain ⟨m, hm⟩ := k0; exact DataW.trod_lt m _ _ _ hm
  obtain ⟨l0, hn0, rfl, hw0⟩ := arg_arr Try.underlying130 Try.underlying5 (by kernel_rfl) (by kernel_rfl) h0
  obtain ⟨a1, len1, cap1, rfl⟩ := okWide_slice Try.underlying110 (hval 1 110 v1 rfl rfl)
  have k1 := h1
  have lt1 : ∀ x ∈ p1, x.block < W.heap.size := by obtain ⟨m, hm⟩ := k1; exact DataW.trod_lt m _ _ _ hm
  obtain ⟨l1, rfl, hC1, hle1, hw1⟩ := arg_slice (opens110 W) h1
  obtain ⟨a2, rfl, rfl, rfl, w2⟩ := open_int Try.underlying3 (hval 2 3 v2 rfl rfl) h2
  clear hA0 hval0
  refine (Go.Proofs.Ytdbfclfglpbpmaa.Rf.RosterFinds_calls l0 _ _ l1 a2 W hn0 (bytes_of hw0) hC1 hle1).mono fun e W' hpost => ?_
  obtain ⟨he, bel0⟩ := hpost
  have bel : Below W.heap.size W W' := bel0
  subst he
  exact ⟨_, rfl, _, _, _, [], _, [], hW', trodAll_mk1 (shut_bool Try.underlying4 _), (trodAll_cons_mk (Below.trod laidOut (by kernel_rfl) (of_decide_eq_true (by kernel_rfl)) k0 bel lt0) (trodAll_cons_mk (Below.trod laidOut (by kernel_rfl) (of_decide_eq_true (by kernel_rfl)) k1 bel lt1) (trodAll_cons_mk (shut_int Try.underlying3 w2) trodAll_mk0))), rfl, bel.frame _, fun h => by cases h⟩
theorem over : Rows.rosterFindsRow.holds Try.pinned (OpenSpec.ofChange Rows.rosterFindsSpec) :=
  OpenClaim.holds_of_wide 14 Try.f14 rfl rfl rfl rfl rfl rfl rfl ⟨rfl, rfl, rfl, rfl, rfl⟩ rfl rfl rfl rfl rfl (by kernel_rfl) Try.func14 (by kernel_rfl)
    (of_decide_eq_true (by kernel_rfl)) (by unfold Func.isWrapper; first | (rw [if_pos (by decide +kernel)]; kernel_rfl) | (rw [if_neg (by decide +kernel)]; exact ⟨rfl, rfl⟩))
    (fun os started H enc _ => lifted os started H enc)
theorem proved : Rows.RosterFindsSaid := over
#print axioms proved
end Go.Proofs.Ytdbfclfglpbpmaa.rosterFinds
namespace Go.Proofs.Ytdbfclfglpbpmaa
/-- The row, under a short name, for the claim. -/
theorem rosterFinds_holds : Rows.RosterFindsSaid := rosterFinds.proved
end Go.Proofs.Ytdbfclfglpbpmaa
