/- By a program of this session (wip/tool/pp.py): plain Lean functions of the Go functions that this family of laws uses, the walks that the Go code comes to their answers, and the row of the law. No condition beside those that the row itself gives. -/
import Derived.Test.YtgnbhomdkchcfaaRows
import Derived.Test.YtgnbhomdkchcfaaPF11Mx6
import Derived.Test.YtgnbhomdkchcfaaPureTabsMoves
import Derived.Test.YtgnbhomdkchcfaaOpens
import Derived.Test.YtgnbhomdkchcfaaWSized
import Derived.WalkKit
import Derived.ProofKit
import Derived.OpenShut
import Derived.ShutString
import Derived.ChangeOld
import Derived.Below
import Derived.SizedLaws
namespace Go.Proofs.Ytgnbhomdkchcfaa.tabsMoves
open Go.ChangeShapes Go.WideShapes Go.ChangeAt Go.RowKit Go.Joins
open Go.ChangeMaps (open_string shut_string)
open Go.Proofs.YtgnbhomdkchcfaaW.PrintWords Go.Proofs.YtgnbhomdkchcfaaW.Opens Go.Proofs.Ytgnbhomdkchcfaa.PF11M
set_option linter.unusedVariables false
set_option linter.unusedSimpArgs false
theorem own : ownKnob Try.prog.godebug = none := by kernel_rfl
theorem laidOut : laidOutB Try.prog = true := by kernel_rfl
theorem opens3 (W : World) : Opens Try.prog W (Kd.int .i64) (fun x => (Lit.int .i64 x).wf = true) 3 := Opens.int Try.underlying3
theorem opens22 (W : World) : Opens Try.prog W (Kd.slice 3 (Kd.int .i64)) (fun xs => xs.length ≤ maxLen ∧ ∀ x_ ∈ xs, (Lit.int .i64 x_).wf = true) 22 := Opens.slice Try.underlying22 (by kernel_rfl) (opens3 W)
theorem opens40 (W : World) : Opens Try.prog W k40 WF40 40 := by
  intro H enc fuel cs y h
  obtain ⟨hl, n, he⟩ := array_each Try.underlying40 h
  simp only [show Try.prog.cellsOf 3 = 1 from by kernel_rfl] at he
  have hl2 : cs.length = 2 := hl.trans (by kernel_rfl)
  obtain ⟨z0, e0⟩ := he 0 (by decide)
  obtain ⟨x0, k0_, w0⟩ := opens3 W enc n _ _ e0
  obtain ⟨z1, e1⟩ := he 1 (by decide)
  obtain ⟨x1, k1_, w1⟩ := opens3 W enc n _ _ e1
  have k0__ : (Kd.int .i64).K W x0 (cs.take 1) := by
    have hq : cs.take 1 = (cs.drop (0 * 1)).take 1 := by
      try simp only [List.drop_drop, List.drop_zero, Nat.reduceAdd, Nat.reduceMul]
      first | done | rfl | exact (List.take_of_length_le (by simp only [List.length_drop]; omega)).symm | exact (List.take_of_length_le (by omega)).symm
    rw [hq]
    exact k0_
  have k1__ : (Kd.int .i64).K W x1 ((cs.drop 1)) := by
    have hq : (cs.drop 1) = (cs.drop (1 * 1)).take 1 := by
      try simp only [List.drop_drop, List.drop_zero, Nat.reduceAdd, Nat.reduceMul]
      first | done | rfl | exact (List.take_of_length_le (by simp only [List.length_drop]; omega)).symm | exact (List.take_of_length_le (by omega)).symm
    rw [hq]
    exact k1_
  exact ⟨⟨x0, x1⟩, (show k40.K W ⟨x0, x1⟩ cs from (pair_K 1 k0__ k1__)), w0, w1⟩
set_option maxRecDepth 100000 in
theorem lifted (os : Os) (started : os.Started) (H : Type) (enc : TypeId × Value → H) :
    ReturnsInHanded {} Try.checked os 5 .any (Rows.tabsMovesSpec.pre6 enc Try.prog Try.f5 Rows.tabsMovesRow.domain false) (Rows.tabsMovesSpec.post enc Try.prog Try.f5 false true false false) := by
  refine returnsInHanded_of_change_sized (C := Try.checked) own started (by kernel_rfl) Try.func5
    (ChangeSpec.witness6 (enc := enc) (C := Try.checked) false ⟨#[], #[.int .i64 0, .slice none 0 0, .agg #[.int .i64 0, .int .i64 0]], []⟩ 8 (by kernel_rfl) (by kernel_rfl) (by kernel_rfl) (by kernel_rfl)) ?_
  intro W base args ds gs before hval0 hW hcnd hsz0 _
  have hval : ∀ (j : Nat) t v, Try.f5.params[j]? = some t → args[j]? = some v → Value.okWide Try.prog W .any base t v := hval0
  have hW' := hW
  obtain ⟨p, q, hA0, hV, rfl, hfz, hnd⟩ := hW
  have hA : DataW.TrodAll enc Try.prog W 0 (fun _ => true) true Try.f5.params.toList args.toList ds p := hA0
  rw [Try.params5] at hA hval
  obtain ⟨v0, vs0, d0, ds0, p0, q0, hargs, rfl, rfl, h0, r0⟩ := trodAll_cons hA
  obtain ⟨v1, vs1, d1, ds1, p1, q1, rfl, rfl, rfl, h1, r1⟩ := trodAll_cons r0
  obtain ⟨v2, vs2, d2, ds2, p2, q2, rfl, rfl, rfl, h2, r2⟩ := trodAll_cons r1
  obtain ⟨rfl, rfl, rfl⟩ := trodAll_nil r2
  obtain rfl : args = #[v0, v1, v2] := by cases args; simp_all
  obtain ⟨rfl, rfl⟩ := trodVars_none hV
  obtain ⟨a0, rfl, rfl, rfl, w0⟩ := open_int Try.underlying3 (hval 0 3 v0 rfl rfl) h0
  obtain ⟨a1, len1, cap1, rfl⟩ := okWide_slice Try.underlying22 (hval 1 22 v1 rfl rfl)
  have k1 := h1
  have lt1 : ∀ x ∈ p1, x.block < W.heap.size := by obtain ⟨m, hm⟩ := k1; exact DataW.trod_lt m _ _ _ hm
  obtain ⟨l1, rfl, hC1, hle1, hw1⟩ := arg_slice (opens22 W) h1
  obtain ⟨cs2, rfl, hs2⟩ := okWide_array Try.underlying40 (hval 2 40 v2 rfl rfl)
  have k2 := h2
  have lt2 : ∀ x ∈ p2, x.block < W.heap.size := by obtain ⟨m, hm⟩ := k2; exact DataW.trod_lt m _ _ _ hm
  obtain ⟨x2, hK2, hw2⟩ := arg_agg (opens40 W) h2
  obtain hcs2 := k40_open hK2
  obtain rfl : cs2 = #[.int .i64 x2.f0, .int .i64 x2.f1] := Array.ext' hcs2
  clear hA0 hval0
  obtain ⟨k, h⟩ := Pure.TabsMoves a0 l1 x2.f0 x2.f1 w0 hw1 hw2.1 hw2.2
  refine (PF11M.batonlaw11_TabsMoves.calls k a0 _ _ l1 x2.f0 x2.f1 true W hC1 hle1 h).mono fun e W' hpost => ?_
  obtain ⟨he, bel0⟩ := hpost
  have bel : Below W.heap.size W W' := bel0
  subst he
  exact ⟨_, rfl, _, _, _, [], _, [], hW', trodAll_mk1 (shut_bool Try.underlying4 _), (trodAll_cons_mk (shut_int Try.underlying3 w0) (trodAll_cons_mk (Below.trod laidOut (by kernel_rfl) (of_decide_eq_true (by kernel_rfl)) k1 bel lt1) (trodAll_cons_mk (Below.trod laidOut (by kernel_rfl) (of_decide_eq_true (by kernel_rfl)) k2 bel lt2) trodAll_mk0))), rfl, bel.frame _, fun h => by cases h⟩
theorem over : Rows.tabsMovesRow.holds Try.pinned (OpenSpec.ofChange Rows.tabsMovesSpec) :=
  OpenClaim.holds_of_wide 5 Try.f5 rfl rfl rfl rfl rfl rfl rfl ⟨rfl, rfl, rfl, rfl, rfl⟩ rfl rfl rfl rfl rfl (by kernel_rfl) Try.func5 (by kernel_rfl)
    (of_decide_eq_true (by kernel_rfl)) (by unfold Func.isWrapper; first | (rw [if_pos (by decide +kernel)]; kernel_rfl) | (rw [if_neg (by decide +kernel)]; exact ⟨rfl, rfl⟩))
    (fun os started H enc _ => lifted os started H enc)
theorem proved : Rows.TabsMovesSaid := over
#print axioms proved
end Go.Proofs.Ytgnbhomdkchcfaa.tabsMoves
namespace Go.Proofs.Ytgnbhomdkchcfaa
/-- The row, under a short name, for the claim. -/
theorem tabsMoves_holds : Rows.TabsMovesSaid := tabsMoves.proved
end Go.Proofs.Ytgnbhomdkchcfaa
