/- By a program of this session (wip/tool/pp.py): plain Lean functions of the Go functions that this family of laws uses, the walks that the Go code comes to their answers, and the row of the law. No condition beside those that the row itself gives. -/
import Derived.Test.YtgnbhomdkchcfaaRows
import Derived.Test.YtgnbhomdkchcfaaPF11Px5
import Derived.Test.YtgnbhomdkchcfaaPureTabsPlays
import Derived.Test.YtgnbhomdkchcfaaOpens
import Derived.Test.YtgnbhomdkchcfaaWSized
import Derived.WalkKit
import Derived.ProofKit
import Derived.OpenShut
import Derived.ShutString
import Derived.ChangeOld
import Derived.Below
import Derived.SizedLaws
namespace Go.Proofs.Ytgnbhomdkchcfaa.tabsPlays
open Go.ChangeShapes Go.WideShapes Go.ChangeAt Go.RowKit Go.Joins
open Go.ChangeMaps (open_string shut_string)
open Go.Proofs.YtgnbhomdkchcfaaW.PrintWords Go.Proofs.YtgnbhomdkchcfaaW.Opens Go.Proofs.Ytgnbhomdkchcfaa.PF11P
set_option linter.unusedVariables false
set_option linter.unusedSimpArgs false
theorem own : ownKnob Try.prog.godebug = none := by kernel_rfl
theorem laidOut : laidOutB Try.prog = true := by kernel_rfl
theorem opens3 (W : World) : Opens Try.prog W (Kd.int .i64) (fun x => (Lit.int .i64 x).wf = true) 3 := Opens.int Try.underlying3
theorem opens38 (W : World) : Opens Try.prog W k38 WF38 38 := by
  intro H enc fuel cs y h
  obtain ⟨hl, n, he⟩ := struct_each Try.underlying38 h
  have hl2 : cs.length = 2 := hl.trans (by kernel_rfl)
  obtain ⟨z0, e0⟩ := he 0 _ rfl
  have e0_ : DataW.trod enc Try.prog W 0 (fun _ => true) true n 3 ((cs.drop 0).take (Try.prog.cellsOf 3)) = some z0 := e0
  obtain ⟨x0, k0_, w0⟩ := opens3 W enc n _ _ e0_
  rw [show Try.prog.cellsOf 3 = 1 from by kernel_rfl] at k0_
  obtain ⟨z1, e1⟩ := he 1 _ rfl
  have e1_ : DataW.trod enc Try.prog W 0 (fun _ => true) true n 3 ((cs.drop 1).take (Try.prog.cellsOf 3)) = some z1 := e1
  obtain ⟨x1, k1_, w1⟩ := opens3 W enc n _ _ e1_
  rw [show Try.prog.cellsOf 3 = 1 from by kernel_rfl] at k1_
  have k0__ : (Kd.int .i64).K W x0 (cs.take 1) := by
    have hq : cs.take 1 = (cs.drop 0).take 1 := by
      try simp only [List.drop_drop, List.drop_zero, Nat.reduceAdd, Nat.reduceMul]
      first | done | rfl | exact (List.take_of_length_le (by simp only [List.length_drop]; omega)).symm | exact (List.take_of_length_le (by omega)).symm
    rw [hq]
    exact k0_
  have k1__ : (Kd.int .i64).K W x1 ((cs.drop 1)) := by
    have hq : (cs.drop 1) = (cs.drop 1).take 1 := by
      try simp only [List.drop_drop, List.drop_zero, Nat.reduceAdd, Nat.reduceMul]
      first | done | rfl | exact (List.take_of_length_le (by simp only [List.length_drop]; omega)).symm | exact (List.take_of_length_le (by omega)).symm
    rw [hq]
    exact k1_
  exact ⟨⟨x0, x1⟩, (show k38.K W ⟨x0, x1⟩ cs from (pair_K 1 k0__ k1__)), w0, w1⟩
theorem opens32 (W : World) : Opens Try.prog W (Kd.slice 38 k38) (fun xs => xs.length ≤ maxLen ∧ ∀ x_ ∈ xs, WF38 x_) 32 := Opens.slice Try.underlying32 (by kernel_rfl) (opens38 W)
set_option maxRecDepth 100000 in
theorem lifted (os : Os) (started : os.Started) (H : Type) (enc : TypeId × Value → H) :
    ReturnsInHanded {} Try.checked os 4 .any (Rows.tabsPlaysSpec.pre6 enc Try.prog Try.f4 Rows.tabsPlaysRow.domain false) (Rows.tabsPlaysSpec.post enc Try.prog Try.f4 false true false false) := by
  refine returnsInHanded_of_change_sized (C := Try.checked) own started (by kernel_rfl) Try.func4
    (ChangeSpec.witness6 (enc := enc) (C := Try.checked) false ⟨#[], #[.int .i64 0, .slice none 0 0], []⟩ 8 (by kernel_rfl) (by kernel_rfl) (by kernel_rfl) (by kernel_rfl)) ?_
  intro W base args ds gs before hval0 hW hcnd hsz0 _
  have hval : ∀ (j : Nat) t v, Try.f4.params[j]? = some t → args[j]? = some v → Value.okWide Try.prog W .any base t v := hval0
  have hW' := hW
  obtain ⟨p, q, hA0, hV, rfl, hfz, hnd⟩ := hW
  have hA : DataW.TrodAll enc Try.prog W 0 (fun _ => true) true Try.f4.params.toList args.toList ds p := hA0
  rw [Try.params4] at hA hval
  obtain ⟨v0, vs0, d0, ds0, p0, q0, hargs, rfl, rfl, h0, r0⟩ := trodAll_cons hA
  obtain ⟨v1, vs1, d1, ds1, p1, q1, rfl, rfl, rfl, h1, r1⟩ := trodAll_cons r0
  obtain ⟨rfl, rfl, rfl⟩ := trodAll_nil r1
  obtain rfl : args = #[v0, v1] := by cases args; simp_all
  obtain ⟨rfl, rfl⟩ := trodVars_none hV
  obtain ⟨a0, rfl, rfl, rfl, w0⟩ := open_int Try.underlying3 (hval 0 3 v0 rfl rfl) h0
  obtain ⟨a1, len1, cap1, rfl⟩ := okWide_slice Try.underlying32 (hval 1 32 v1 rfl rfl)
  have k1 := h1
  have lt1 : ∀ x ∈ p1, x.block < W.heap.size := by obtain ⟨m, hm⟩ := k1; exact DataW.trod_lt m _ _ _ hm
  obtain ⟨l1, rfl, hC1, hle1, hw1⟩ := arg_slice (opens32 W) h1
  clear hA0 hval0
  obtain ⟨k, h⟩ := Pure.TabsPlays a0 l1 w0 hw1
  refine (PF11P.batonlaw11_TabsPlays.calls k a0 _ _ l1 true W hC1 hle1 h).mono fun e W' hpost => ?_
  obtain ⟨he, bel0⟩ := hpost
  have bel : Below W.heap.size W W' := bel0
  subst he
  exact ⟨_, rfl, _, _, _, [], _, [], hW', trodAll_mk1 (shut_bool Try.underlying4 _), (trodAll_cons_mk (shut_int Try.underlying3 w0) (trodAll_cons_mk (Below.trod laidOut (by kernel_rfl) (of_decide_eq_true (by kernel_rfl)) k1 bel lt1) trodAll_mk0)), rfl, bel.frame _, fun h => by cases h⟩
theorem over : Rows.tabsPlaysRow.holds Try.pinned (OpenSpec.ofChange Rows.tabsPlaysSpec) :=
  OpenClaim.holds_of_wide 4 Try.f4 rfl rfl rfl rfl rfl rfl rfl ⟨rfl, rfl, rfl, rfl, rfl⟩ rfl rfl rfl rfl rfl (by kernel_rfl) Try.func4 (by kernel_rfl)
    (of_decide_eq_true (by kernel_rfl)) (by unfold Func.isWrapper; first | (rw [if_pos (by decide +kernel)]; kernel_rfl) | (rw [if_neg (by decide +kernel)]; exact ⟨rfl, rfl⟩))
    (fun os started H enc _ => lifted os started H enc)
theorem proved : Rows.TabsPlaysSaid := over
#print axioms proved
end Go.Proofs.Ytgnbhomdkchcfaa.tabsPlays
namespace Go.Proofs.Ytgnbhomdkchcfaa
/-- The row, under a short name, for the claim. -/
theorem tabsPlays_holds : Rows.TabsPlaysSaid := tabsPlays.proved
end Go.Proofs.Ytgnbhomdkchcfaa
