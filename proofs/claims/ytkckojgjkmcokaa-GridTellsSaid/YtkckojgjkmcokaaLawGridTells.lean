/- By a program of this session (wip/tool/pp.py): plain Lean functions of the Go functions that this family of laws uses, the walks that the Go code comes to their answers, and the row of the law. No condition beside those that the row itself gives. -/
import Derived.Test.YtkckojgjkmcokaaRows
import Derived.Test.YtkckojgjkmcokaaPF10x9
import Derived.Test.YtkckojgjkmcokaaPureGridTells
import Derived.Test.YtkckojgjkmcokaaOpens
import Derived.Test.YtkckojgjkmcokaaWSized
import Derived.WalkKit
import Derived.ProofKit
import Derived.OpenShut
import Derived.ShutString
import Derived.ChangeOld
import Derived.Below
import Derived.SizedLaws
namespace Go.Proofs.Ytkckojgjkmcokaa.gridTells
open Go.ChangeShapes Go.WideShapes Go.ChangeAt Go.RowKit Go.Joins
open Go.ChangeMaps (open_string shut_string)
open Go.Proofs.YtkckojgjkmcokaaW.PrintWords Go.Proofs.YtkckojgjkmcokaaW.Opens Go.Proofs.Ytkckojgjkmcokaa.PF10
set_option linter.unusedVariables false
set_option linter.unusedSimpArgs false
theorem own : ownKnob Try.prog.godebug = none := by kernel_rfl
theorem laidOut : laidOutB Try.prog = true := by kernel_rfl
theorem opens3 (W : World) : Opens Try.prog W (Kd.int .i64) (fun x => (Lit.int .i64 x).wf = true) 3 := Opens.int Try.underlying3
theorem opens21 (W : World) : Opens Try.prog W (Kd.int .i32) (fun x => (Lit.int .i32 x).wf = true) 21 := Opens.int Try.underlying21
theorem opens51 (W : World) : Opens Try.prog W k51 WF51 51 := by
  intro H enc fuel cs y h
  obtain ⟨hl, n, he⟩ := struct_each Try.underlying51 h
  have hl2 : cs.length = 3 := hl.trans (by kernel_rfl)
  obtain ⟨z0, e0⟩ := he 0 _ rfl
  have e0_ : DataW.trod enc Try.prog W 0 (fun _ => true) true n 3 ((cs.drop 0).take (Try.prog.cellsOf 3)) = some z0 := e0
  obtain ⟨x0, k0_, w0⟩ := opens3 W enc n _ _ e0_
  rw [show Try.prog.cellsOf 3 = 1 from by kernel_rfl] at k0_
  obtain ⟨z1, e1⟩ := he 1 _ rfl
  have e1_ : DataW.trod enc Try.prog W 0 (fun _ => true) true n 3 ((cs.drop 1).take (Try.prog.cellsOf 3)) = some z1 := e1
  obtain ⟨x1, k1_, w1⟩ := opens3 W enc n _ _ e1_
  rw [show Try.prog.cellsOf 3 = 1 from by kernel_rfl] at k1_
  obtain ⟨z2, e2⟩ := he 2 _ rfl
  have e2_ : DataW.trod enc Try.prog W 0 (fun _ => true) true n 3 ((cs.drop 2).take (Try.prog.cellsOf 3)) = some z2 := e2
  obtain ⟨x2, k2_, w2⟩ := opens3 W enc n _ _ e2_
  rw [show Try.prog.cellsOf 3 = 1 from by kernel_rfl] at k2_
  have k0__ : (Kd.int .i64).K W x0 (cs.take 1) := by
    have hq : cs.take 1 = (cs.drop 0).take 1 := by
      try simp only [List.drop_drop, List.drop_zero, Nat.reduceAdd, Nat.reduceMul]
      first | done | rfl | exact (List.take_of_length_le (by simp only [List.length_drop]; omega)).symm | exact (List.take_of_length_le (by omega)).symm
    rw [hq]
    exact k0_
  have k1__ : (Kd.int .i64).K W x1 ((cs.drop 1).take 1) := by
    have hq : (cs.drop 1).take 1 = (cs.drop 1).take 1 := by
      try simp only [List.drop_drop, List.drop_zero, Nat.reduceAdd, Nat.reduceMul]
      first | done | rfl | exact (List.take_of_length_le (by simp only [List.length_drop]; omega)).symm | exact (List.take_of_length_le (by omega)).symm
    rw [hq]
    exact k1_
  have k2__ : (Kd.int .i64).K W x2 (((cs.drop 1).drop 1)) := by
    have hq : ((cs.drop 1).drop 1) = (cs.drop 2).take 1 := by
      try simp only [List.drop_drop, List.drop_zero, Nat.reduceAdd, Nat.reduceMul]
      first | done | rfl | exact (List.take_of_length_le (by simp only [List.length_drop]; omega)).symm | exact (List.take_of_length_le (by omega)).symm
    rw [hq]
    exact k2_
  exact ⟨⟨x0, x1, x2⟩, (show k51.K W ⟨x0, x1, x2⟩ cs from (pair_K 1 k0__ (pair_K 1 k1__ k2__))), w0, w1, w2⟩
theorem opens53 (W : World) : Opens Try.prog W k53 WF53 53 := by
  intro H enc fuel cs y h
  obtain ⟨hl, n, he⟩ := struct_each Try.underlying53 h
  have hl2 : cs.length = 4 := hl.trans (by kernel_rfl)
  obtain ⟨z0, e0⟩ := he 0 _ rfl
  have e0_ : DataW.trod enc Try.prog W 0 (fun _ => true) true n 21 ((cs.drop 0).take (Try.prog.cellsOf 21)) = some z0 := e0
  obtain ⟨x0, k0_, w0⟩ := opens21 W enc n _ _ e0_
  rw [show Try.prog.cellsOf 21 = 1 from by kernel_rfl] at k0_
  obtain ⟨z1, e1⟩ := he 1 _ rfl
  have e1_ : DataW.trod enc Try.prog W 0 (fun _ => true) true n 51 ((cs.drop 1).take (Try.prog.cellsOf 51)) = some z1 := e1
  obtain ⟨x1, k1_, w1⟩ := opens51 W enc n _ _ e1_
  rw [show Try.prog.cellsOf 51 = 3 from by kernel_rfl] at k1_
  have k0__ : (Kd.int .i32).K W x0 (cs.take 1) := by
    have hq : cs.take 1 = (cs.drop 0).take 1 := by
      try simp only [List.drop_drop, List.drop_zero, Nat.reduceAdd, Nat.reduceMul]
      first | done | rfl | exact (List.take_of_length_le (by simp only [List.length_drop]; omega)).symm | exact (List.take_of_length_le (by omega)).symm
    rw [hq]
    exact k0_
  have k1__ : k51.K W x1 ((cs.drop 1)) := by
    have hq : (cs.drop 1) = (cs.drop 1).take 3 := by
      try simp only [List.drop_drop, List.drop_zero, Nat.reduceAdd, Nat.reduceMul]
      first | done | rfl | exact (List.take_of_length_le (by simp only [List.length_drop]; omega)).symm | exact (List.take_of_length_le (by omega)).symm
    rw [hq]
    exact k1_
  exact ⟨⟨x0, x1⟩, (show k53.K W ⟨x0, x1⟩ cs from (pair_K 1 k0__ k1__)), w0, w1⟩
theorem opens47 (W : World) : Opens Try.prog W (Kd.slice 53 k53) (fun xs => xs.length ≤ maxLen ∧ ∀ x_ ∈ xs, WF53 x_) 47 := Opens.slice Try.underlying47 (by kernel_rfl) (opens53 W)
theorem opens75 (W : World) : Opens Try.prog W k75 WF75 75 := by
  intro H enc fuel cs y h
  obtain ⟨hl, n, he⟩ := struct_each Try.underlying75 h
  have hl2 : cs.length = 3 := hl.trans (by kernel_rfl)
  obtain ⟨z0, e0⟩ := he 0 _ rfl
  have e0_ : DataW.trod enc Try.prog W 0 (fun _ => true) true n 3 ((cs.drop 0).take (Try.prog.cellsOf 3)) = some z0 := e0
  obtain ⟨x0, k0_, w0⟩ := opens3 W enc n _ _ e0_
  rw [show Try.prog.cellsOf 3 = 1 from by kernel_rfl] at k0_
  obtain ⟨z1, e1⟩ := he 1 _ rfl
  have e1_ : DataW.trod enc Try.prog W 0 (fun _ => true) true n 3 ((cs.drop 1).take (Try.prog.cellsOf 3)) = some z1 := e1
  obtain ⟨x1, k1_, w1⟩ := opens3 W enc n _ _ e1_
  rw [show Try.prog.cellsOf 3 = 1 from by kernel_rfl] at k1_
  obtain ⟨z2, e2⟩ := he 2 _ rfl
  have e2_ : DataW.trod enc Try.prog W 0 (fun _ => true) true n 47 ((cs.drop 2).take (Try.prog.cellsOf 47)) = some z2 := e2
  obtain ⟨x2, k2_, w2⟩ := opens47 W enc n _ _ e2_
  rw [show Try.prog.cellsOf 47 = 1 from by kernel_rfl] at k2_
  have k0__ : (Kd.int .i64).K W x0 (cs.take 1) := by
    have hq : cs.take 1 = (cs.drop 0).take 1 := by
      try simp only [List.drop_drop, List.drop_zero, Nat.reduceAdd, Nat.reduceMul]
      first | done | rfl | exact (List.take_of_length_le (by simp only [List.length_drop]; omega)).symm | exact (List.take_of_length_le (by omega)).symm
    rw [hq]
    exact k0_
  have k1__ : (Kd.int .i64).K W x1 ((cs.drop 1).take 1) := by
    have hq : (cs.drop 1).take 1 = (cs.drop 1).take 1 := by
      try simp only [List.drop_drop, List.drop_zero, Nat.reduceAdd, Nat.reduceMul]
      first | done | rfl | exact (List.take_of_length_le (by simp only [List.length_drop]; omega)).symm | exact (List.take_of_length_le (by omega)).symm
    rw [hq]
    exact k1_
  have k2__ : (Kd.slice 53 k53).K W x2 (((cs.drop 1).drop 1)) := by
    have hq : ((cs.drop 1).drop 1) = (cs.drop 2).take 1 := by
      try simp only [List.drop_drop, List.drop_zero, Nat.reduceAdd, Nat.reduceMul]
      first | done | rfl | exact (List.take_of_length_le (by simp only [List.length_drop]; omega)).symm | exact (List.take_of_length_le (by omega)).symm
    rw [hq]
    exact k2_
  exact ⟨⟨x0, x1, x2⟩, (show k75.K W ⟨x0, x1, x2⟩ cs from (pair_K 1 k0__ (pair_K 1 k1__ k2__))), w0, w1, w2⟩
theorem opens84 (W : World) : Opens Try.prog W k84 WF84 84 := by
  intro H enc fuel cs y h
  obtain ⟨hl, n, he⟩ := array_each Try.underlying84 h
  simp only [show Try.prog.cellsOf 3 = 1 from by kernel_rfl] at he
  have hl2 : cs.length = 2 := hl.trans (by kernel_rfl)
  obtain ⟨z0, e0⟩ := he 0 (by decide)
  obtain ⟨x0, k0_, w0⟩ := opens3 W enc n _ _ e0
  obtain ⟨z1, e1⟩ := he 1 (by decide)
  obtain ⟨x1, k1_, w1⟩ := opens3 W enc n _ _ e1
  have k0__ : (Kd.int .i64).K W x0 (cs.take 1) := by
    have hq : cs.take 1 = (cs.drop (0 * 1)).take 1 := by
      try simp only [List.drop_drop, List.drop_zero, Nat.reduceAdd, Nat.reduceMul]
      first | done | rfl | exact (List.take_of_length_le (by simp only [List.length_drop]; omega)).symm | exact (List.take_of_length_le (by omega)).symm
    rw [hq]
    exact k0_
  have k1__ : (Kd.int .i64).K W x1 ((cs.drop 1)) := by
    have hq : (cs.drop 1) = (cs.drop (1 * 1)).take 1 := by
      try simp only [List.drop_drop, List.drop_zero, Nat.reduceAdd, Nat.reduceMul]
      first | done | rfl | exact (List.take_of_length_le (by simp only [List.length_drop]; omega)).symm | exact (List.take_of_length_le (by omega)).symm
    rw [hq]
    exact k1_
  exact ⟨⟨x0, x1⟩, (show k84.K W ⟨x0, x1⟩ cs from (pair_K 1 k0__ k1__)), w0, w1⟩
set_option maxRecDepth 100000 in
theorem lifted (os : Os) (started : os.Started) (H : Type) (enc : TypeId × Value → H) :
    ReturnsInHanded {} Try.checked os 11 .any (Rows.gridTellsSpec.pre6 enc Try.prog Try.f11 Rows.gridTellsRow.domain false) (Rows.gridTellsSpec.post enc Try.prog Try.f11 false true false false) := by
  refine returnsInHanded_of_change_sized (C := Try.checked) own started (by kernel_rfl) Try.func11
    (ChangeSpec.witness6 (enc := enc) (C := Try.checked) false ⟨#[], #[.agg #[.int .i64 0, .int .i64 0, .slice none 0 0], .agg #[.int .i64 0, .int .i64 0, .slice none 0 0], .agg #[.int .i64 0, .int .i64 0]], []⟩ 8 (by kernel_rfl) (by kernel_rfl) (by kernel_rfl) (by kernel_rfl)) ?_
  intro W base args ds gs before hval0 hW hcnd hsz0 _
  have hval : ∀ (j : Nat) t v, Try.f11.params[j]? = some t → args[j]? = some v → Value.okWide Try.prog W .any base t v := hval0
  have hW' := hW
  obtain ⟨p, q, hA0, hV, rfl, hfz, hnd⟩ := hW
  have hA : DataW.TrodAll enc Try.prog W 0 (fun _ => true) true Try.f11.params.toList args.toList ds p := hA0
  rw [Try.params11] at hA hval
  obtain ⟨v0, vs0, d0, ds0, p0, q0, hargs, rfl, rfl, h0, r0⟩ := trodAll_cons hA
  obtain ⟨v1, vs1, d1, ds1, p1, q1, rfl, rfl, rfl, h1, r1⟩ := trodAll_cons r0
  obtain ⟨v2, vs2, d2, ds2, p2, q2, rfl, rfl, rfl, h2, r2⟩ := trodAll_cons r1
  obtain ⟨rfl, rfl, rfl⟩ := trodAll_nil r2
  obtain rfl : args = #[v0, v1, v2] := by cases args; simp_all
  obtain ⟨rfl, rfl⟩ := trodVars_none hV
  obtain ⟨cs0, rfl, hs0⟩ := okWide_struct Try.underlying75 (hval 0 75 v0 rfl rfl)
  have k0 := h0
  have lt0 : ∀ x ∈ p0, x.block < W.heap.size := by obtain ⟨m, hm⟩ := k0; exact DataW.trod_lt m _ _ _ hm
  obtain ⟨x0, hK0, hw0⟩ := arg_agg (opens75 W) h0
  obtain ⟨A0_2, c0_2, hcs0, hle0_2, hC0_2⟩ := k75_open hK0
  obtain rfl : cs0 = #[.int .i64 x0.f0, .int .i64 x0.f1, .slice A0_2 x0.f2.length c0_2] := Array.ext' hcs0
  obtain ⟨cs1, rfl, hs1⟩ := okWide_struct Try.underlying75 (hval 1 75 v1 rfl rfl)
  have k1 := h1
  have lt1 : ∀ x ∈ p1, x.block < W.heap.size := by obtain ⟨m, hm⟩ := k1; exact DataW.trod_lt m _ _ _ hm
  obtain ⟨x1, hK1, hw1⟩ := arg_agg (opens75 W) h1
  obtain ⟨A1_2, c1_2, hcs1, hle1_2, hC1_2⟩ := k75_open hK1
  obtain rfl : cs1 = #[.int .i64 x1.f0, .int .i64 x1.f1, .slice A1_2 x1.f2.length c1_2] := Array.ext' hcs1
  obtain ⟨cs2, rfl, hs2⟩ := okWide_array Try.underlying84 (hval 2 84 v2 rfl rfl)
  have k2 := h2
  have lt2 : ∀ x ∈ p2, x.block < W.heap.size := by obtain ⟨m, hm⟩ := k2; exact DataW.trod_lt m _ _ _ hm
  obtain ⟨x2, hK2, hw2⟩ := arg_agg (opens84 W) h2
  obtain hcs2 := k84_open hK2
  obtain rfl : cs2 = #[.int .i64 x2.f0, .int .i64 x2.f1] := Array.ext' hcs2
  clear hA0 hval0
  obtain ⟨k, h⟩ := Pure.GridTells x0.f0 x0.f1 x0.f2 x1.f0 x1.f1 x1.f2 x2.f0 x2.f1 hw0.1 hw0.2.1 hw0.2.2 hw1.1 hw1.2.1 hw1.2.2 hw2.1 hw2.2
  refine (PF10.batonlaw10_GridTells.calls k x0.f0 x0.f1 _ _ x0.f2 x1.f0 x1.f1 _ _ x1.f2 x2.f0 x2.f1 true W hC0_2 hle0_2 hC1_2 hle1_2 h).mono fun e W' hpost => ?_
  obtain ⟨he, bel0⟩ := hpost
  have bel : Below W.heap.size W W' := bel0
  subst he
  exact ⟨_, rfl, _, _, _, [], _, [], hW', trodAll_mk1 (shut_bool Try.underlying4 _), (trodAll_cons_mk (Below.trod laidOut (by kernel_rfl) (of_decide_eq_true (by kernel_rfl)) k0 bel lt0) (trodAll_cons_mk (Below.trod laidOut (by kernel_rfl) (of_decide_eq_true (by kernel_rfl)) k1 bel lt1) (trodAll_cons_mk (Below.trod laidOut (by kernel_rfl) (of_decide_eq_true (by kernel_rfl)) k2 bel lt2) trodAll_mk0))), rfl, bel.frame _, fun h => by cases h⟩
theorem over : Rows.gridTellsRow.holds Try.pinned (OpenSpec.ofChange Rows.gridTellsSpec) :=
  OpenClaim.holds_of_wide 11 Try.f11 rfl rfl rfl rfl rfl rfl rfl ⟨rfl, rfl, rfl, rfl, rfl⟩ rfl rfl rfl rfl rfl (by kernel_rfl) Try.func11 (by kernel_rfl)
    (of_decide_eq_true (by kernel_rfl)) (by unfold Func.isWrapper; first | (rw [if_pos (by decide +kernel)]; kernel_rfl) | (rw [if_neg (by decide +kernel)]; exact ⟨rfl, rfl⟩))
    (fun os started H enc _ => lifted os started H enc)
theorem proved : Rows.GridTellsSaid := over
#print axioms proved
end Go.Proofs.Ytkckojgjkmcokaa.gridTells
namespace Go.Proofs.Ytkckojgjkmcokaa
/-- The row, under a short name, for the claim. -/
theorem gridTells_holds : Rows.GridTellsSaid := gridTells.proved
end Go.Proofs.Ytkckojgjkmcokaa
