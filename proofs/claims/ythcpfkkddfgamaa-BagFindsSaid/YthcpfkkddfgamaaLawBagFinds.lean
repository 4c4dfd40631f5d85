/- By a program of this session (wip/tool/pp.py): plain Lean functions of the Go functions that this family of laws uses, the walks that the Go code comes to their answers, and the row of the law. No condition beside those that the row itself gives. -/
import Derived.Test.YthcpfkkddfgamaaRows
import Derived.Test.YthcpfkkddfgamaaPF39Fx4
import Derived.Test.YthcpfkkddfgamaaPureBagFinds
import Derived.Test.YthcpfkkddfgamaaOpens
import Derived.Test.YthcpfkkddfgamaaWSized
import Derived.WalkKit
import Derived.ProofKit
import Derived.OpenShut
import Derived.ShutString
import Derived.ChangeOld
import Derived.Below
import Derived.SizedLaws
namespace Go.Proofs.Ythcpfkkddfgamaa.bagFinds
open Go.ChangeShapes Go.WideShapes Go.ChangeAt Go.RowKit Go.Joins
open Go.ChangeMaps (open_string shut_string)
open Go.Proofs.YthcpfkkddfgamaaW.PrintWords Go.Proofs.YthcpfkkddfgamaaW.Opens Go.Proofs.Ythcpfkkddfgamaa.PF39F
set_option linter.unusedVariables false
set_option linter.unusedSimpArgs false
theorem own : ownKnob Try.prog.godebug = none := by kernel_rfl
theorem laidOut : laidOutB Try.prog = true := by kernel_rfl
theorem opens3 (W : World) : Opens Try.prog W (Kd.int .i64) (fun x => (Lit.int .i64 x).wf = true) 3 := Opens.int Try.underlying3
theorem opens5 (W : World) : Opens Try.prog W (Kd.int .u8) (fun x => (Lit.int .u8 x).wf = true) 5 := Opens.int Try.underlying5
theorem opens28 (W : World) : Opens Try.prog W (Kd.slice 5 (Kd.int .u8)) (fun xs => xs.length ≤ maxLen ∧ ∀ x_ ∈ xs, (Lit.int .u8 x_).wf = true) 28 := Opens.slice Try.underlying28 (by kernel_rfl) (opens5 W)
theorem opens50 (W : World) : Opens Try.prog W k50 WF50 50 := by
  intro H enc fuel cs y h
  obtain ⟨hl, n, he⟩ := struct_each Try.underlying50 h
  have hl2 : cs.length = 4 := hl.trans (by kernel_rfl)
  obtain ⟨z0, e0⟩ := he 0 _ rfl
  have e0_ : DataW.trod enc Try.prog W 0 (fun _ => true) true n 3 ((cs.drop 0).take (Try.prog.cellsOf 3)) = some z0 := e0
  obtain ⟨x0, k0_, w0⟩ := opens3 W enc n _ _ e0_
  rw [show Try.prog.cellsOf 3 = 1 from by kernel_rfl] at k0_
  obtain ⟨z1, e1⟩ := he 1 _ rfl
  have e1_ : DataW.trod enc Try.prog W 0 (fun _ => true) true n 3 ((cs.drop 1).take (Try.prog.cellsOf 3)) = some z1 := e1
  obtain ⟨x1, k1_, w1⟩ := opens3 W enc n _ _ e1_
  rw [show Try.prog.cellsOf 3 = 1 from by kernel_rfl] at k1_
  obtain ⟨z2, e2⟩ := he 2 _ rfl
  have e2_ : DataW.trod enc Try.prog W 0 (fun _ => true) true n 3 ((cs.drop 2).take (Try.prog.cellsOf 3)) = some z2 := e2
  obtain ⟨x2, k2_, w2⟩ := opens3 W enc n _ _ e2_
  rw [show Try.prog.cellsOf 3 = 1 from by kernel_rfl] at k2_
  obtain ⟨z3, e3⟩ := he 3 _ rfl
  have e3_ : DataW.trod enc Try.prog W 0 (fun _ => true) true n 28 ((cs.drop 3).take (Try.prog.cellsOf 28)) = some z3 := e3
  obtain ⟨x3, k3_, w3⟩ := opens28 W enc n _ _ e3_
  rw [show Try.prog.cellsOf 28 = 1 from by kernel_rfl] at k3_
  have k0__ : (Kd.int .i64).K W x0 (cs.take 1) := by
    have hq : cs.take 1 = (cs.drop 0).take 1 := by
      try simp only [List.drop_drop, List.drop_zero, Nat.reduceAdd, Nat.reduceMul]
      first | done | rfl | exact (List.take_of_length_le (by simp only [List.length_drop]; omega)).symm | exact (List.take_of_length_le (by omega)).symm
    rw [hq]
    exact k0_
  have k1__ : (Kd.int .i64).K W x1 ((cs.drop 1).take 1) := by
    have hq : (cs.drop 1).take 1 = (cs.drop 1).take 1 := by
      try simp only [List.drop_drop, List.drop_zero, Nat.reduceAdd, Nat.reduceMul]
      first | done | rfl | exact (List.take_of_length_le (by simp only [List.length_drop]; omega)).symm | exact (List.take_of_length_le (by omega)).symm
    rw [hq]
    exact k1_
  have k2__ : (Kd.int .i64).K W x2 (((cs.drop 1).drop 1).take 1) := by
    have hq : ((cs.drop 1).drop 1).take 1 = (cs.drop 2).take 1 := by
      try simp only [List.drop_drop, List.drop_zero, Nat.reduceAdd, Nat.reduceMul]
      first | done | rfl | exact (List.take_of_length_le (by simp only [List.length_drop]; omega)).symm | exact (List.take_of_length_le (by omega)).symm
    rw [hq]
    exact k2_
  have k3__ : (Kd.slice 5 (Kd.int .u8)).K W x3 ((((cs.drop 1).drop 1).drop 1)) := by
    have hq : (((cs.drop 1).drop 1).drop 1) = (cs.drop 3).take 1 := by
      try simp only [List.drop_drop, List.drop_zero, Nat.reduceAdd, Nat.reduceMul]
      first | done | rfl | exact (List.take_of_length_le (by simp only [List.length_drop]; omega)).symm | exact (List.take_of_length_le (by omega)).symm
    rw [hq]
    exact k3_
  exact ⟨⟨x0, x1, x2, x3⟩, (show k50.K W ⟨x0, x1, x2, x3⟩ cs from (pair_K 1 k0__ (pair_K 1 k1__ (pair_K 1 k2__ k3__)))), w0, w1, w2, w3⟩
theorem opens44 (W : World) : Opens Try.prog W (Kd.slice 50 k50) (fun xs => xs.length ≤ maxLen ∧ ∀ x_ ∈ xs, WF50 x_) 44 := Opens.slice Try.underlying44 (by kernel_rfl) (opens50 W)
theorem opens24 (W : World) : Opens Try.prog W k24 WF24 24 := by
  intro H enc fuel cs y h
  obtain ⟨hl, n, he⟩ := array_each Try.underlying24 h
  simp only [show Try.prog.cellsOf 3 = 1 from by kernel_rfl] at he
  have hl2 : cs.length = 2 := hl.trans (by kernel_rfl)
  obtain ⟨z0, e0⟩ := he 0 (by decide)
  obtain ⟨x0, k0_, w0⟩ := opens3 W enc n _ _ e0
  obtain ⟨z1, e1⟩ := he 1 (by decide)
  obtain ⟨x1, k1_, w1⟩ := opens3 W enc n _ _ e1
  have k0__ : (Kd.int .i64).K W x0 (cs.take 1) := by
    have hq : cs.take 1 = (cs.drop (0 * 1)).take 1 := by
      try simp only [List.drop_drop, List.drop_zero, Nat.reduceAdd, Nat.reduceMul]
      first | done | rfl | exact (List.take_of_length_le (by simp only [List.length_drop]; omega)).symm | exact (List.take_of_length_le (by omega)).symm
    rw [hq]
    exact k0_
  have k1__ : (Kd.int .i64).K W x1 ((cs.drop 1)) := by
    have hq : (cs.drop 1) = (cs.drop (1 * 1)).take 1 := by
      try simp only [List.drop_drop, List.drop_zero, Nat.reduceAdd, Nat.reduceMul]
      first | done | rfl | exact (List.take_of_length_le (by simp only [List.length_drop]; omega)).symm | exact (List.take_of_length_le (by omega)).symm
    rw [hq]
    exact k1_
  exact ⟨⟨x0, x1⟩, (show k24.K W ⟨x0, x1⟩ cs from (pair_K 1 k0__ k1__)), w0, w1⟩
set_option maxRecDepth 100000 in
theorem lifted (os : Os) (started : os.Started) (H : Type) (enc : TypeId × Value → H) :
    ReturnsInHanded {} Try.checked os 7 .any (Rows.bagFindsSpec.pre6 enc Try.prog Try.f7 Rows.bagFindsRow.domain false) (Rows.bagFindsSpec.post enc Try.prog Try.f7 false true false false) := by
  refine returnsInHanded_of_change_sized (C := Try.checked) own started (by kernel_rfl) Try.func7
    (ChangeSpec.witness6 (enc := enc) (C := Try.checked) false ⟨#[], #[.slice none 0 0, .agg #[.int .i64 0, .int .i64 0], .slice none 0 0], []⟩ 8 (by kernel_rfl) (by kernel_rfl) (by kernel_rfl) (by kernel_rfl)) ?_
  intro W base args ds gs before hval0 hW hcnd hsz0 _
  have hval : ∀ (j : Nat) t v, Try.f7.params[j]? = some t → args[j]? = some v → Value.okWide Try.prog W .any base t v := hval0
  have hW' := hW
  obtain ⟨p, q, hA0, hV, rfl, hfz, hnd⟩ := hW
  have hA : DataW.TrodAll enc Try.prog W 0 (fun _ => true) true Try.f7.params.toList args.toList ds p := hA0
  rw [Try.params7] at hA hval
  obtain ⟨v0, vs0, d0, ds0, p0, q0, hargs, rfl, rfl, h0, r0⟩ := trodAll_cons hA
  obtain ⟨v1, vs1, d1, ds1, p1, q1, rfl, rfl, rfl, h1, r1⟩ := trodAll_cons r0
  obtain ⟨v2, vs2, d2, ds2, p2, q2, rfl, rfl, rfl, h2, r2⟩ := trodAll_cons r1
  obtain ⟨rfl, rfl, rfl⟩ := trodAll_nil r2
  obtain rfl : args = #[v0, v1, v2] := by cases args; simp_all
  obtain ⟨rfl, rfl⟩ := trodVars_none hV
  obtain ⟨a0, len0, cap0, rfl⟩ := okWide_slice Try.underlying44 (hval 0 44 v0 rfl rfl)
  have k0 := h0
  have lt0 : ∀ x ∈ p0, x.block < W.heap.size := by obtain ⟨m, hm⟩ := k0; exact DataW.trod_lt m _ _ _ hm
  obtain ⟨l0, rfl, hC0, hle0, hw0⟩ := arg_slice (opens44 W) h0
  obtain ⟨cs1, rfl, hs1⟩ := okWide_array Try.underlying24 (hval 1 24 v1 rfl rfl)
  have k1 := h1
  have lt1 : ∀ x ∈ p1, x.block < W.heap.size := by obtain ⟨m, hm⟩ := k1; exact DataW.trod_lt m _ _ _ hm
  obtain ⟨x1, hK1, hw1⟩ := arg_agg (opens24 W) h1
  obtain hcs1 := k24_open hK1
  obtain rfl : cs1 = #[.int .i64 x1.f0, .int .i64 x1.f1] := Array.ext' hcs1
  obtain ⟨a2, len2, cap2, rfl⟩ := okWide_slice Try.underlying28 (hval 2 28 v2 rfl rfl)
  have k2 := h2
  have lt2 : ∀ x ∈ p2, x.block < W.heap.size := by obtain ⟨m, hm⟩ := k2; exact DataW.trod_lt m _ _ _ hm
  obtain ⟨l2, rfl, hC2, hle2, hw2⟩ := arg_slice (opens28 W) h2
  clear hA0 hval0
  obtain ⟨k, h⟩ := Pure.BagFinds l0 x1.f0 x1.f1 l2 hw0 hw1.1 hw1.2 hw2
  refine (PF39F.batonlaw39_BagFinds.calls k _ _ l0 x1.f0 x1.f1 _ _ l2 true W hC0 hle0 hC2 hle2 h).mono fun e W' hpost => ?_
  obtain ⟨he, bel0⟩ := hpost
  have bel : Below W.heap.size W W' := bel0
  subst he
  exact ⟨_, rfl, _, _, _, [], _, [], hW', trodAll_mk1 (shut_bool Try.underlying4 _), (trodAll_cons_mk (Below.trod laidOut (by kernel_rfl) (of_decide_eq_true (by kernel_rfl)) k0 bel lt0) (trodAll_cons_mk (Below.trod laidOut (by kernel_rfl) (of_decide_eq_true (by kernel_rfl)) k1 bel lt1) (trodAll_cons_mk (Below.trod laidOut (by kernel_rfl) (of_decide_eq_true (by kernel_rfl)) k2 bel lt2) trodAll_mk0))), rfl, bel.frame _, fun h => by cases h⟩
theorem over : Rows.bagFindsRow.holds Try.pinned (OpenSpec.ofChange Rows.bagFindsSpec) :=
  OpenClaim.holds_of_wide 7 Try.f7 rfl rfl rfl rfl rfl rfl rfl ⟨rfl, rfl, rfl, rfl, rfl⟩ rfl rfl rfl rfl rfl (by kernel_rfl) Try.func7 (by kernel_rfl)
    (of_decide_eq_true (by kernel_rfl)) (by unfold Func.isWrapper; first | (rw [if_pos (by decide +kernel)]; kernel_rfl) | (rw [if_neg (by decide +kernel)]; exact ⟨rfl, rfl⟩))
    (fun os started H enc _ => lifted os started H enc)
theorem proved : Rows.BagFindsSaid := over
#print axioms proved
end Go.Proofs.Ythcpfkkddfgamaa.bagFinds
namespace Go.Proofs.Ythcpfkkddfgamaa
/-- The row, under a short name, for the claim. -/
theorem bagFinds_holds : Rows.BagFindsSaid := bagFinds.proved
end Go.Proofs.Ythcpfkkddfgamaa
