/- The row of DiskPlays, out of the hand-written walk of the law's own function. No condition beside those that the row itself gives. -/
import Derived.Test.YtdbfclfglpbpmaaRows
import Derived.Test.YtdbfclfglpbpmaaDskW
import Derived.Test.YtdbfclfglpbpmaaOpens
import Derived.Test.YtdbfclfglpbpmaaWSized
import Derived.WalkKit
import Derived.ProofKit
import Derived.OpenShut
import Derived.ShutString
import Derived.ChangeOld
import Derived.Below
import Derived.SizedLaws
namespace Go.Proofs.Ytdbfclfglpbpmaa.diskPlays
open Go.ChangeShapes Go.WideShapes Go.ChangeAt Go.RowKit Go.Joins
open Go.ChangeMaps (open_string shut_string)
open Go.Proofs.YtdbfclfglpbpmaaW.PrintWords Go.Proofs.YtdbfclfglpbpmaaW.Opens Go.Proofs.Ytdbfclfglpbpmaa.Base
set_option linter.unusedVariables false
set_option linter.unusedSimpArgs false
theorem own : ownKnob Try.prog.godebug = none := by kernel_rfl
theorem laidOut : laidOutB Try.prog = true := by kernel_rfl
theorem opens5 (W : World) : Opens Try.prog W (Kd.int .u8) (fun x => (Lit.int .u8 x).wf = true) 5 := Opens.int Try.underlying5
theorem opens3 (W : World) : Opens Try.prog W (Kd.int .i64) (fun x => (Lit.int .i64 x).wf = true) 3 := Opens.int Try.underlying3
theorem opens86 (W : World) : Opens Try.prog W (Kd.slice 3 (Kd.int .i64)) (fun xs => xs.length ≤ maxLen ∧ ∀ x_ ∈ xs, (Lit.int .i64 x_).wf = true) 86 := Opens.slice Try.underlying86 (by kernel_rfl) (opens3 W)
theorem opens4 (W : World) : Opens Try.prog W Kd.bool (fun _ => True) 4 := Opens.bool Try.underlying4
open Go.Proofs.Ytdbfclfglpbpmaa.Dsk in
theorem opens88 (W : World) : Opens Try.prog W kOp WFOp 88 := by
  intro H enc fuel cs y h
  obtain ⟨hl, n, he⟩ := struct_each Try.underlying88 h
  have hl' : cs.length = 6 := hl.trans (by kernel_rfl)
  obtain ⟨z0, e0⟩ := he 0 _ rfl
  obtain ⟨z1, e1⟩ := he 1 _ rfl
  obtain ⟨z2, e2⟩ := he 2 _ rfl
  obtain ⟨z3, e3⟩ := he 3 _ rfl
  obtain ⟨z4, e4⟩ := he 4 _ rfl
  obtain ⟨z5, e5⟩ := he 5 _ rfl
  have e0_ : DataW.trod enc Try.prog W 0 (fun _ => true) true n 3 ((cs.drop 0).take (Try.prog.cellsOf 3)) = some z0 := e0
  have e1_ : DataW.trod enc Try.prog W 0 (fun _ => true) true n 3 ((cs.drop 1).take (Try.prog.cellsOf 3)) = some z1 := e1
  have e2_ : DataW.trod enc Try.prog W 0 (fun _ => true) true n 5 ((cs.drop 2).take (Try.prog.cellsOf 5)) = some z2 := e2
  have e3_ : DataW.trod enc Try.prog W 0 (fun _ => true) true n 5 ((cs.drop 3).take (Try.prog.cellsOf 5)) = some z3 := e3
  have e4_ : DataW.trod enc Try.prog W 0 (fun _ => true) true n 4 ((cs.drop 4).take (Try.prog.cellsOf 4)) = some z4 := e4
  have e5_ : DataW.trod enc Try.prog W 0 (fun _ => true) true n 86 ((cs.drop 5).take (Try.prog.cellsOf 86)) = some z5 := e5
  obtain ⟨x0, k0, w0⟩ := opens3 W enc n _ _ e0_
  obtain ⟨x1, k1, w1⟩ := opens3 W enc n _ _ e1_
  obtain ⟨x2, k2, w2⟩ := opens5 W enc n _ _ e2_
  obtain ⟨x3, k3, w3⟩ := opens5 W enc n _ _ e3_
  obtain ⟨x4, k4, w4⟩ := opens4 W enc n _ _ e4_
  obtain ⟨x5, k5, w5⟩ := opens86 W enc n _ _ e5_
  rw [show Try.prog.cellsOf 3 = 1 from by kernel_rfl] at k0 k1
  rw [show Try.prog.cellsOf 5 = 1 from by kernel_rfl] at k2 k3
  rw [show Try.prog.cellsOf 4 = 1 from by kernel_rfl] at k4
  rw [show Try.prog.cellsOf 86 = 1 from by kernel_rfl, List.take_of_length_le (by rw [List.length_drop]; omega)] at k5
  have hd : ∀ a b : Nat, (cs.drop a).drop b = cs.drop (a + b) := fun a b => List.drop_drop
  exact ⟨(x0, x1, x2, x3, x4, x5), pair_K 1 k0 (pair_K 1 k1 (by rw [hd]; exact pair_K 1 k2 (by rw [hd]; exact pair_K 1 k3 (by rw [hd]; exact pair_K 1 k4 (by rw [hd]; exact k5))))), w0, w1, w2, w3, w5⟩
open Go.Proofs.Ytdbfclfglpbpmaa.Dsk in
theorem opens85 (W : World) : Opens Try.prog W (Kd.slice 88 kOp) (fun xs => xs.length ≤ maxLen ∧ ∀ x_ ∈ xs, WFOp x_) 85 := Opens.slice Try.underlying85 (by kernel_rfl) (opens88 W)
set_option maxRecDepth 100000 in
theorem lifted (os : Os) (started : os.Started) (H : Type) (enc : TypeId × Value → H) :
    ReturnsInHanded {} Try.checked os 11 .any (Rows.diskPlaysSpec.pre6 enc Try.prog Try.f11 Rows.diskPlaysRow.domain false) (Rows.diskPlaysSpec.post enc Try.prog Try.f11 false true false false) := by
  refine returnsInHanded_of_change_sized (C := Try.checked) own started (by kernel_rfl) Try.func11
    (ChangeSpec.witness6 (enc := enc) (C := Try.checked) false ⟨#[], #[.int .i64 0, .slice none 0 0, .slice none 0 0], []⟩ 8 (by kernel_rfl) (by kernel_rfl) (by kernel_rfl) (by kernel_rfl)) ?_
  intro W base args ds gs before hval0 hW hcnd hsz0 _
  have hval : ∀ (j : Nat) t v, Try.f11.params[j]? = some t → args[j]? = some v → Value.okWide Try.prog W .any base t v := hval0
  have hW' := hW
  obtain ⟨p, q, hA0, hV, rfl, hfz, hnd⟩ := hW
  have hA : DataW.TrodAll enc Try.prog W 0 (fun _ => true) true Try.f11.params.toList args.toList ds p := hA0
  rw [Try.params11] at hA hval
  obtain ⟨v0, vs0, d0, ds0, p0, q0, hargs, rfl, rfl, h0, r0⟩ := trodAll_cons hA
  obtain ⟨v1, vs1, d1, ds1, p1, q1, rfl, rfl, rfl, h1, r1⟩ := trodAll_cons r0
  obtain ⟨v2, vs2, d2, ds2, p2, q2, rfl, rfl, rfl, h2, r2⟩ := trodAll_cons r1
  obtain ⟨rfl, rfl, rfl⟩ := trodAll_nil r2
  obtain rfl : args = #[v0, v1, v2] := by cases args; simp_all
  obtain ⟨rfl, rfl⟩ := trodVars_none hV
  obtain ⟨a0, rfl, rfl, rfl, w0⟩ := open_int Try.underlying3 (hval 0 3 v0 rfl rfl) h0
  obtain ⟨a1, len1, cap1, rfl⟩ := okWide_slice Try.underlying86 (hval 1 86 v1 rfl rfl)
  have k1 := h1
  have lt1 : ∀ x ∈ p1, x.block < W.heap.size := by obtain ⟨m, hm⟩ := k1; exact DataW.trod_lt m _ _ _ hm
  obtain ⟨l1, rfl, hC1, hle1, hw1⟩ := arg_slice (opens86 W) h1
  obtain ⟨a2, len2, cap2, rfl⟩ := okWide_slice Try.underlying85 (hval 2 85 v2 rfl rfl)
  have k2 := h2
  have lt2 : ∀ x ∈ p2, x.block < W.heap.size := by obtain ⟨m, hm⟩ := k2; exact DataW.trod_lt m _ _ _ hm
  obtain ⟨l2, rfl, hC2, hle2, hw2⟩ := arg_slice (opens85 W) h2
  clear hA0 hval0
  refine (Go.Proofs.Ytdbfclfglpbpmaa.Dsk.DiskPlays_calls a0 _ _ l1 _ _ l2 W (bounds_i64 w0) hC1 hle1 hC2 hle2 hw2.2).mono fun e W' hpost => ?_
  obtain ⟨he, bel0⟩ := hpost
  have bel : Below W.heap.size W W' := bel0
  subst he
  exact ⟨_, rfl, _, _, _, [], _, [], hW', trodAll_mk1 (shut_bool Try.underlying4 _), (trodAll_cons_mk (shut_int Try.underlying3 w0) (trodAll_cons_mk (Below.trod laidOut (by kernel_rfl) (of_decide_eq_true (by kernel_rfl)) k1 bel lt1) (trodAll_cons_mk (Below.trod laidOut (by kernel_rfl) (of_decide_eq_true (by kernel_rfl)) k2 bel lt2) trodAll_mk0))), rfl, bel.frame _, fun h => by cases h⟩
theorem over : Rows.diskPlaysRow.holds Try.pinned (OpenSpec.ofChange Rows.diskPlaysSpec) :=
  OpenClaim.holds_of_wide 11 Try.f11 rfl rfl rfl rfl rfl rfl rfl ⟨rfl, rfl, rfl, rfl, rfl⟩ rfl rfl rfl rfl rfl (by kernel_rfl) Try.func11 (by kernel_rfl)
    (of_decide_eq_true (by kernel_rfl)) (by unfold Func.isWrapper; first | (rw [if_pos (by decide +kernel)]; kernel_rfl) | (rw [if_neg (by decide +kernel)]; exact ⟨rfl, rfl⟩))
    (fun os started H enc _ => lifted os started H enc)
theorem proved : Rows.DiskPlaysSaid := over
#print axioms proved
end Go.Proofs.Ytdbfclfglpbpmaa.diskPlays
namespace Go.Proofs.Ytdbfclfglpbpmaa
/-- The row, under a short name, for the claim. -/
theorem diskPlays_holds : Rows.DiskPlaysSaid := diskPlays.proved
end Go.Proofs.Ytdbfclfglpbpmaa
