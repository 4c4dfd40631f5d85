/- By a program of this session (wip/tool/pp.py): plain Lean functions of the Go functions that this family of laws uses, the walks that the Go code comes to their answers, and the row of the law. No condition beside those that the row itself gives. -/
import Derived.Test.YtdbfclfglpbpmaaRows
import Derived.Test.YtdbfclfglpbpmaaPF25x7
import Derived.Test.YtdbfclfglpbpmaaPureRosterChanges
import Derived.Test.YtdbfclfglpbpmaaOpens
import Derived.Test.YtdbfclfglpbpmaaWSized
import Derived.WalkKit
import Derived.ProofKit
import Derived.OpenShut
import Derived.ShutString
import Derived.ChangeOld
import Derived.Below
import Derived.SizedLaws
namespace Go.Proofs.Ytdbfclfglpbpmaa.rosterChanges
open Go.ChangeShapes Go.WideShapes Go.ChangeAt Go.RowKit Go.Joins
open Go.ChangeMaps (open_string shut_string)
open Go.Proofs.YtdbfclfglpbpmaaW.PrintWords Go.Proofs.YtdbfclfglpbpmaaW.Opens Go.Proofs.Ytdbfclfglpbpmaa.PF25
set_option linter.unusedVariables false
set_option linter.unusedSimpArgs false
theorem own : ownKnob Try.prog.godebug = none := by kernel_rfl
theorem laidOut : laidOutB Try.prog = true := by kernel_rfl
theorem opens3 (W : World) : Opens Try.prog W (Kd.int .i64) (fun x => (Lit.int .i64 x).wf = true) 3 := Opens.int Try.underlying3
theorem opens4 (W : World) : Opens Try.prog W Kd.bool (fun _ => True) 4 := Opens.bool Try.underlying4
theorem opens115 (W : World) : Opens Try.prog W k115 WF115 115 := by
  intro H enc fuel cs y h
  obtain ⟨hl, n, he⟩ := struct_each Try.underlying115 h
  have hl2 : cs.length = 4 := hl.trans (by kernel_rfl)
  obtain ⟨z0, e0⟩ := he 0 _ rfl
  have e0_ : DataW.trod enc Try.prog W 0 (fun _ => true) true n 3 ((cs.drop 0).take (Try.prog.cellsOf 3)) = some z0 := e0
  obtain ⟨x0, k0_, w0⟩ := opens3 W enc n _ _ e0_
  rw [show Try.prog.cellsOf 3 = 1 from by kernel_rfl] at k0_
  obtain ⟨z1, e1⟩ := he 1 _ rfl
  have e1_ : DataW.trod enc Try.prog W 0 (fun _ => true) true n 3 ((cs.drop 1).take (Try.prog.cellsOf 3)) = some z1 := e1
  obtain ⟨x1, k1_, w1⟩ := opens3 W enc n _ _ e1_
  rw [show Try.prog.cellsOf 3 = 1 from by kernel_rfl] at k1_
  obtain ⟨z2, e2⟩ := he 2 _ rfl
  have e2_ : DataW.trod enc Try.prog W 0 (fun _ => true) true n 4 ((cs.drop 2).take (Try.prog.cellsOf 4)) = some z2 := e2
  obtain ⟨x2, k2_, w2⟩ := opens4 W enc n _ _ e2_
  rw [show Try.prog.cellsOf 4 = 1 from by kernel_rfl] at k2_
  obtain ⟨z3, e3⟩ := he 3 _ rfl
  have e3_ : DataW.trod enc Try.prog W 0 (fun _ => true) true n 3 ((cs.drop 3).take (Try.prog.cellsOf 3)) = some z3 := e3
  obtain ⟨x3, k3_, w3⟩ := opens3 W enc n _ _ e3_
  rw [show Try.prog.cellsOf 3 = 1 from by kernel_rfl] at k3_
  have k0__ : (Kd.int .i64).K W x0 (cs.take 1) := by
    have hq : cs.take 1 = (cs.drop 0).take 1 := by
      try simp only [List.drop_drop, List.drop_zero, Nat.reduceAdd, Nat.reduceMul]
      first | done | rfl | exact (List.take_of_length_le (by simp only [List.length_drop]; omega)).symm | exact (List.take_of_length_le (by omega)).symm
    rw [hq]
    exact k0_
  have k1__ : (Kd.int .i64).K W x1 ((cs.drop 1).take 1) := by
    have hq : (cs.drop 1).take 1 = (cs.drop 1).take 1 := by
      try simp only [List.drop_drop, List.drop_zero, Nat.reduceAdd, Nat.reduceMul]
      first | done | rfl | exact (List.take_of_length_le (by simp only [List.length_drop]; omega)).symm | exact (List.take_of_length_le (by omega)).symm
    rw [hq]
    exact k1_
  have k2__ : Kd.bool.K W x2 (((cs.drop 1).drop 1).take 1) := by
    have hq : ((cs.drop 1).drop 1).take 1 = (cs.drop 2).take 1 := by
      try simp only [List.drop_drop, List.drop_zero, Nat.reduceAdd, Nat.reduceMul]
      first | done | rfl | exact (List.take_of_length_le (by simp only [List.length_drop]; omega)).symm | exact (List.take_of_length_le (by omega)).symm
    rw [hq]
    exact k2_
  have k3__ : (Kd.int .i64).K W x3 ((((cs.drop 1).drop 1).drop 1)) := by
    have hq : (((cs.drop 1).drop 1).drop 1) = (cs.drop 3).take 1 := by
      try simp only [List.drop_drop, List.drop_zero, Nat.reduceAdd, Nat.reduceMul]
      first | done | rfl | exact (List.take_of_length_le (by simp only [List.length_drop]; omega)).symm | exact (List.take_of_length_le (by omega)).symm
    rw [hq]
    exact k3_
  exact ⟨⟨x0, x1, x2, x3⟩, (show k115.K W ⟨x0, x1, x2, x3⟩ cs from (pair_K 1 k0__ (pair_K 1 k1__ (pair_K 1 k2__ k3__)))), w0, w1, w2, w3⟩
theorem opens110 (W : World) : Opens Try.prog W (Kd.slice 115 k115) (fun xs => xs.length ≤ maxLen ∧ ∀ x_ ∈ xs, WF115 x_) 110 := Opens.slice Try.underlying110 (by kernel_rfl) (opens115 W)
set_option maxRecDepth 100000 in
theorem lifted (os : Os) (started : os.Started) (H : Type) (enc : TypeId × Value → H) :
    ReturnsInHanded {} Try.checked os 13 .any (Rows.rosterChangesSpec.pre6 enc Try.prog Try.f13 Rows.rosterChangesRow.domain false) (Rows.rosterChangesSpec.post enc Try.prog Try.f13 false true false false) := by
  refine returnsInHanded_of_change_sized (C := Try.checked) own started (by kernel_rfl) Try.func13
    (ChangeSpec.witness6 (enc := enc) (C := Try.checked) false ⟨#[], #[.slice none 0 0, .int .i64 0, .int .i64 0], []⟩ 8 (by kernel_rfl) (by kernel_rfl) (by kernel_rfl) (by kernel_rfl)) ?_
  intro W base args ds gs before hval0 hW hcnd hsz0 _
  have hval : ∀ (j : Nat) t v, Try.f13.params[j]? = some t → args[j]? = some v → Value.okWide Try.prog W .any base t v := hval0
  have hW' := hW
  obtain ⟨p, q, hA0, hV, rfl, hfz, hnd⟩ := hW
  have hA : DataW.TrodAll enc Try.prog W 0 (fun _ => true) true Try.f13.params.toList args.toList ds p := hA0
  rw [Try.params13] at hA hval
  obtain ⟨v0, vs0, d0, ds0, p0, q0, hargs, rfl, rfl, h0, r0⟩ := trodAll_cons hA
  obtain ⟨v1, vs1, d1, ds1, p1, q1, rfl, rfl, rfl, h1, r1⟩ := trodAll_cons r0
  obtain ⟨v2, vs2, d2, ds2, p2, q2, rfl, rfl, rfl, h2, r2⟩ := trodAll_cons r1
  obtain ⟨rfl, rfl, rfl⟩ := trodAll_nil r2
  obtain rfl : args = #[v0, v1, v2] := by cases args; simp_all
  obtain ⟨rfl, rfl⟩ := trodVars_none hV
  obtain ⟨a0, len0, cap0, rfl⟩ := okWide_slice Try.underlying110 (hval 0 110 v0 rfl rfl)
  have k0 := h0
  have lt0 : ∀ x ∈ p0, x.block < W.heap.size := by obtain ⟨m, hm⟩ := k0; exact DataW.trod_lt m _ _ _ hm
  obtain ⟨l0, rfl, hC0, hle0, hw0⟩ := arg_slice (opens110 W) h0
  obtain ⟨a1, rfl, rfl, rfl, w1⟩ := open_int Try.underlying3 (hval 1 3 v1 rfl rfl) h1
  obtain ⟨a2, rfl, rfl, rfl, w2⟩ := open_int Try.underlying3 (hval 2 3 v2 rfl rfl) h2
  clear hA0 hval0
  obtain ⟨k, h⟩ := Pure.RosterChanges l0 a1 a2 hw0 w1 w2
  refine (PF25.batonlaw25_RosterChanges.calls k _ _ l0 a1 a2 true W hC0 hle0 h).mono fun e W' hpost => ?_
  obtain ⟨he, bel0⟩ := hpost
  have bel : Below W.heap.size W W' := bel0
  subst he
  exact ⟨_, rfl, _, _, _, [], _, [], hW', trodAll_mk1 (shut_bool Try.underlying4 _), (trodAll_cons_mk (Below.trod laidOut (by kernel_rfl) (of_decide_eq_true (by kernel_rfl)) k0 bel lt0) (trodAll_cons_mk (shut_int Try.underlying3 w1) (trodAll_cons_mk (shut_int Try.underlying3 w2) trodAll_mk0))), rfl, bel.frame _, fun h => by cases h⟩
theorem over : Rows.rosterChangesRow.holds Try.pinned (OpenSpec.ofChange Rows.rosterChangesSpec) :=
  OpenClaim.holds_of_wide 13 Try.f13 rfl rfl rfl rfl rfl rfl rfl ⟨rfl, rfl, rfl, rfl, rfl⟩ rfl rfl rfl rfl rfl (by kernel_rfl) Try.func13 (by kernel_rfl)
    (of_decide_eq_true (by kernel_rfl)) (by unfold Func.isWrapper; first | (rw [if_pos (by decide +kernel)]; kernel_rfl) | (rw [if_neg (by decide +kernel)]; exact ⟨rfl, rfl⟩))
    (fun os started H enc _ => lifted os started H enc)
theorem proved : Rows.RosterChangesSaid := over
#print axioms proved
end Go.Proofs.Ytdbfclfglpbpmaa.rosterChanges
namespace Go.Proofs.Ytdbfclfglpbpmaa
/-- The row, under a short name, for the claim. -/
theorem rosterChanges_holds : Rows.RosterChangesSaid := rosterChanges.proved
end Go.Proofs.Ytdbfclfglpbpmaa
