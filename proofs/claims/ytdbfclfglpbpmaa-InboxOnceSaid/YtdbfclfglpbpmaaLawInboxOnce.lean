/- By a program of this session (wip/tool/pp.py): plain Lean functions of the Go functions that this family of laws uses, the walks that the Go code comes to their answers, and the row of the law. No condition beside those that the row itself gives. -/
import Derived.Test.YtdbfclfglpbpmaaRows
import Derived.Test.YtdbfclfglpbpmaaPF32Ox4
import Derived.Test.YtdbfclfglpbpmaaPureInboxOnce
import Derived.Test.YtdbfclfglpbpmaaOpens
import Derived.Test.YtdbfclfglpbpmaaWSized
import Derived.WalkKit
import Derived.ProofKit
import Derived.OpenShut
import Derived.ShutString
import Derived.ChangeOld
import Derived.Below
import Derived.SizedLaws
namespace Go.Proofs.Ytdbfclfglpbpmaa.inboxOnce
open Go.ChangeShapes Go.WideShapes Go.ChangeAt Go.RowKit Go.Joins
open Go.ChangeMaps (open_string shut_string)
open Go.Proofs.YtdbfclfglpbpmaaW.PrintWords Go.Proofs.YtdbfclfglpbpmaaW.Opens Go.Proofs.Ytdbfclfglpbpmaa.PF32O
set_option linter.unusedVariables false
set_option linter.unusedSimpArgs false
theorem own : ownKnob Try.prog.godebug = none := by kernel_rfl
theorem laidOut : laidOutB Try.prog = true := by kernel_rfl
theorem opens5 (W : World) : Opens Try.prog W (Kd.int .u8) (fun x => (Lit.int .u8 x).wf = true) 5 := Opens.int Try.underlying5
theorem opens22 (W : World) : Opens Try.prog W (Kd.slice 5 (Kd.int .u8)) (fun xs => xs.length ≤ maxLen ∧ ∀ x_ ∈ xs, (Lit.int .u8 x_).wf = true) 22 := Opens.slice Try.underlying22 (by kernel_rfl) (opens5 W)
theorem opens71 (W : World) : Opens Try.prog W k71 WF71 71 := by
  intro H enc fuel cs y h
  obtain ⟨hl, n, he⟩ := struct_each Try.underlying71 h
  have hl2 : cs.length = 2 := hl.trans (by kernel_rfl)
  obtain ⟨z0, e0⟩ := he 0 _ rfl
  have e0_ : DataW.trod enc Try.prog W 0 (fun _ => true) true n 5 ((cs.drop 0).take (Try.prog.cellsOf 5)) = some z0 := e0
  obtain ⟨x0, k0_, w0⟩ := opens5 W enc n _ _ e0_
  rw [show Try.prog.cellsOf 5 = 1 from by kernel_rfl] at k0_
  obtain ⟨z1, e1⟩ := he 1 _ rfl
  have e1_ : DataW.trod enc Try.prog W 0 (fun _ => true) true n 5 ((cs.drop 1).take (Try.prog.cellsOf 5)) = some z1 := e1
  obtain ⟨x1, k1_, w1⟩ := opens5 W enc n _ _ e1_
  rw [show Try.prog.cellsOf 5 = 1 from by kernel_rfl] at k1_
  have k0__ : (Kd.int .u8).K W x0 (cs.take 1) := by
    have hq : cs.take 1 = (cs.drop 0).take 1 := by
      try simp only [List.drop_drop, List.drop_zero, Nat.reduceAdd, Nat.reduceMul]
      first | done | rfl | exact (List.take_of_length_le (by simp only [List.length_drop]; omega)).symm | exact (List.take_of_length_le (by omega)).symm
    rw [hq]
    exact k0_
  have k1__ : (Kd.int .u8).K W x1 ((cs.drop 1)) := by
    have hq : (cs.drop 1) = (cs.drop 1).take 1 := by
      try simp only [List.drop_drop, List.drop_zero, Nat.reduceAdd, Nat.reduceMul]
      first | done | rfl | exact (List.take_of_length_le (by simp only [List.length_drop]; omega)).symm | exact (List.take_of_length_le (by omega)).symm
    rw [hq]
    exact k1_
  exact ⟨⟨x0, x1⟩, (show k71.K W ⟨x0, x1⟩ cs from (pair_K 1 k0__ k1__)), w0, w1⟩
theorem opens65 (W : World) : Opens Try.prog W (Kd.slice 71 k71) (fun xs => xs.length ≤ maxLen ∧ ∀ x_ ∈ xs, WF71 x_) 65 := Opens.slice Try.underlying65 (by kernel_rfl) (opens71 W)
set_option maxRecDepth 100000 in
theorem lifted (os : Os) (started : os.Started) (H : Type) (enc : TypeId × Value → H) :
    ReturnsInHanded {} Try.checked os 8 .any (Rows.inboxOnceSpec.pre6 enc Try.prog Try.f8 Rows.inboxOnceRow.domain false) (Rows.inboxOnceSpec.post enc Try.prog Try.f8 false true false false) := by
  refine returnsInHanded_of_change_sized (C := Try.checked) own started (by kernel_rfl) Try.func8
    (ChangeSpec.witness6 (enc := enc) (C := Try.checked) false ⟨#[], #[.slice none 0 0, .slice none 0 0], []⟩ 8 (by kernel_rfl) (by kernel_rfl) (by kernel_rfl) (by kernel_rfl)) ?_
  intro W base args ds gs before hval0 hW hcnd hsz0 _
  have hval : ∀ (j : Nat) t v, Try.f8.params[j]? = some t → args[j]? = some v → Value.okWide Try.prog W .any base t v := hval0
  have hW' := hW
  obtain ⟨p, q, hA0, hV, rfl, hfz, hnd⟩ := hW
  have hA : DataW.TrodAll enc Try.prog W 0 (fun _ => true) true Try.f8.params.toList args.toList ds p := hA0
  rw [Try.params8] at hA hval
  obtain ⟨v0, vs0, d0, ds0, p0, q0, hargs, rfl, rfl, h0, r0⟩ := trodAll_cons hA
  obtain ⟨v1, vs1, d1, ds1, p1, q1, rfl, rfl, rfl, h1, r1⟩ := trodAll_cons r0
  obtain ⟨rfl, rfl, rfl⟩ := trodAll_nil r1
  obtain rfl : args = #[v0, v1] := by cases args; simp_all
  obtain ⟨rfl, rfl⟩ := trodVars_none hV
  obtain ⟨a0, len0, cap0, rfl⟩ := okWide_slice Try.underlying22 (hval 0 22 v0 rfl rfl)
  have k0 := h0
  have lt0 : ∀ x ∈ p0, x.block < W.heap.size := by obtain ⟨m, hm⟩ := k0; exact DataW.trod_lt m _ _ _ hm
  obtain ⟨l0, rfl, hC0, hle0, hw0⟩ := arg_slice (opens22 W) h0
  obtain ⟨a1, len1, cap1, rfl⟩ := okWide_slice Try.underlying65 (hval 1 65 v1 rfl rfl)
  have k1 := h1
  have lt1 : ∀ x ∈ p1, x.block < W.heap.size := by obtain ⟨m, hm⟩ := k1; exact DataW.trod_lt m _ _ _ hm
  obtain ⟨l1, rfl, hC1, hle1, hw1⟩ := arg_slice (opens65 W) h1
  clear hA0 hval0
  obtain ⟨k, h⟩ := Pure.InboxOnce l0 l1 hw0 hw1
  refine (PF32O.batonlaw32_InboxOnce.calls k _ _ l0 _ _ l1 true W hC0 hle0 hC1 hle1 h).mono fun e W' hpost => ?_
  obtain ⟨he, bel0⟩ := hpost
  have bel : Below W.heap.size W W' := bel0
  subst he
  exact ⟨_, rfl, _, _, _, [], _, [], hW', trodAll_mk1 (shut_bool Try.underlying4 _), (trodAll_cons_mk (Below.trod laidOut (by kernel_rfl) (of_decide_eq_true (by kernel_rfl)) k0 bel lt0) (trodAll_cons_mk (Below.trod laidOut (by kernel_rfl) (of_decide_eq_true (by kernel_rfl)) k1 bel lt1) trodAll_mk0)), rfl, bel.frame _, fun h => by cases h⟩
theorem over : Rows.inboxOnceRow.holds Try.pinned (OpenSpec.ofChange Rows.inboxOnceSpec) :=
  OpenClaim.holds_of_wide 8 Try.f8 rfl rfl rfl rfl rfl rfl rfl ⟨rfl, rfl, rfl, rfl, rfl⟩ rfl rfl rfl rfl rfl (by kernel_rfl) Try.func8 (by kernel_rfl)
    (of_decide_eq_true (by kernel_rfl)) (by unfold Func.isWrapper; first | (rw [if_pos (by decide +kernel)]; kernel_rfl) | (rw [if_neg (by decide +kernel)]; exact ⟨rfl, rfl⟩))
    (fun os started H enc _ => lifted os started H enc)
theorem proved : Rows.InboxOnceSaid := over
#print axioms proved
end Go.Proofs.Ytdbfclfglpbpmaa.inboxOnce
namespace Go.Proofs.Ytdbfclfglpbpmaa
/-- The row, under a short name, for the claim. -/
theorem inboxOnce_holds : Rows.InboxOnceSaid := inboxOnce.proved
end Go.Proofs.Ytdbfclfglpbpmaa
