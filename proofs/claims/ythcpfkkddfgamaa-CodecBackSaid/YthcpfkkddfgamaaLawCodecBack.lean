/- The row of CodecBack, out of the hand-written walk of the law's own function. No condition beside those that the row itself gives. -/
import Derived.Test.YthcpfkkddfgamaaRows
import Derived.Test.YthcpfkkddfgamaaCbG
import Derived.Test.YthcpfkkddfgamaaOpens
import Derived.Test.YthcpfkkddfgamaaWSized
import Derived.WalkKit
import Derived.ProofKit
import Derived.OpenShut
import Derived.ShutString
import Derived.ChangeOld
import Derived.Below
import Derived.SizedLaws
namespace Go.Proofs.Ythcpfkkddfgamaa.codecBack
open Go.ChangeShapes Go.WideShapes Go.ChangeAt Go.RowKit Go.Joins
open Go.ChangeMaps (open_string shut_string)
open Go.Proofs.YthcpfkkddfgamaaW.PrintWords Go.Proofs.YthcpfkkddfgamaaW.Opens Go.Proofs.Ythcpfkkddfgamaa.Base
set_option linter.unusedVariables false
set_option linter.unusedSimpArgs false
theorem own : ownKnob Try.prog.godebug = none := by kernel_rfl
theorem laidOut : laidOutB Try.prog = true := by kernel_rfl
theorem opens5 (W : World) : Opens Try.prog W (Kd.int .u8) (fun x => (Lit.int .u8 x).wf = true) 5 := Opens.int Try.underlying5
theorem opens28 (W : World) : Opens Try.prog W (Kd.slice 5 (Kd.int .u8)) (fun xs => xs.length ≤ maxLen ∧ ∀ x_ ∈ xs, (Lit.int .u8 x_).wf = true) 28 := Opens.slice Try.underlying28 (by kernel_rfl) (opens5 W)
open Go.Proofs.Ythcpfkkddfgamaa.Cod in
theorem opens90 (W : World) : Opens Try.prog W KA (fun xs => xs.length = 32 ∧ ∀ y ∈ xs, (Lit.int .u8 y).wf = true) 90 := by
  intro H enc fuel cs y h
  obtain ⟨hl, m, hm⟩ := array_each Try.underlying90 h
  have hl' : cs.length = 32 := hl.trans (by kernel_rfl)
  have each : ∀ i, i < 32 → ∃ x, cs[i]? = some (.int .u8 x) ∧ (Lit.int .u8 x).wf = true := by
    intro i hi
    obtain ⟨z, hz⟩ := hm i hi
    obtain ⟨x, hx, hwf⟩ := opens5 W enc m _ _ hz
    rw [show Try.prog.cellsOf 5 = 1 from by kernel_rfl, Nat.mul_one] at hx
    have hx' : (cs.drop i).take 1 = [.int .u8 x] := hx
    refine ⟨x, ?_, hwf⟩
    have h0 : ((cs.drop i).take 1)[0]? = some (.int .u8 x) := by rw [hx']; rfl
    rw [List.getElem?_take_of_lt (by omega), List.getElem?_drop, Nat.add_zero] at h0
    exact h0
  obtain ⟨xs, hxl, hxs⟩ := exists_list (fun i x => cs[i]? = some (.int .u8 x) ∧ (Lit.int .u8 x).wf = true) 32 each
  refine ⟨xs, ⟨hxl, ?_⟩, hxl, fun x hx => ?_⟩
  · refine List.ext_getElem? (fun i => ?_)
    rcases Nat.lt_or_ge i 32 with hi | hi
    · obtain ⟨h1, _⟩ := hxs i xs[i] (List.getElem?_eq_getElem (by omega))
      rw [h1]
      simp [hxl, hi]
    · rw [List.getElem?_eq_none (by omega), List.getElem?_eq_none (by simp; omega)]
  · obtain ⟨i, hi⟩ := List.getElem?_of_mem hx
    exact (hxs i x hi).2
theorem opens3 (W : World) : Opens Try.prog W (Kd.int .i64) (fun x => (Lit.int .i64 x).wf = true) 3 := Opens.int Try.underlying3
open Go.Proofs.Ythcpfkkddfgamaa.Cod in
theorem opens100 (W : World) : Opens Try.prog W kIt WFIt 100 := by
  intro H enc fuel cs y h
  obtain ⟨hl, n, he⟩ := struct_each Try.underlying100 h
  have hl' : cs.length = 35 := hl.trans (by kernel_rfl)
  obtain ⟨z0, e0⟩ := he 0 _ rfl
  obtain ⟨z1, e1⟩ := he 1 _ rfl
  obtain ⟨z2, e2⟩ := he 2 _ rfl
  obtain ⟨z3, e3⟩ := he 3 _ rfl
  have e0_ : DataW.trod enc Try.prog W 0 (fun _ => true) true n 3 ((cs.drop 0).take (Try.prog.cellsOf 3)) = some z0 := e0
  have e1_ : DataW.trod enc Try.prog W 0 (fun _ => true) true n 3 ((cs.drop 1).take (Try.prog.cellsOf 3)) = some z1 := e1
  have e2_ : DataW.trod enc Try.prog W 0 (fun _ => true) true n 28 ((cs.drop 2).take (Try.prog.cellsOf 28)) = some z2 := e2
  have e3_ : DataW.trod enc Try.prog W 0 (fun _ => true) true n 90 ((cs.drop 3).take (Try.prog.cellsOf 90)) = some z3 := e3
  obtain ⟨x0, k0, w0⟩ := opens3 W enc n _ _ e0_
  obtain ⟨x1, k1, w1⟩ := opens3 W enc n _ _ e1_
  obtain ⟨x2, k2, w2⟩ := opens28 W enc n _ _ e2_
  obtain ⟨x3, k3, w3⟩ := opens90 W enc n _ _ e3_
  rw [show Try.prog.cellsOf 3 = 1 from by kernel_rfl] at k0 k1
  rw [show Try.prog.cellsOf 28 = 1 from by kernel_rfl] at k2
  rw [show Try.prog.cellsOf 90 = 32 from by kernel_rfl, List.take_of_length_le (by rw [List.length_drop]; omega)] at k3
  have h1 : (cs.drop 1).drop 1 = cs.drop 2 := by rw [List.drop_drop]
  have h2 : (cs.drop 2).drop 1 = cs.drop 3 := by rw [List.drop_drop]
  exact ⟨(x0, x1, x2, x3), pair_K 1 k0 (pair_K 1 k1 (by rw [h1]; exact pair_K 1 k2 (by rw [h2]; exact k3))), w0, w1, w2, w3⟩
open Go.Proofs.Ythcpfkkddfgamaa.Cod in
theorem opens96 (W : World) : Opens Try.prog W (Kd.slice 100 kIt) (fun xs => xs.length ≤ maxLen ∧ ∀ x_ ∈ xs, WFIt x_) 96 := Opens.slice Try.underlying96 (by kernel_rfl) (opens100 W)
set_option maxRecDepth 100000 in
theorem lifted (os : Os) (started : os.Started) (H : Type) (enc : TypeId × Value → H) :
    ReturnsInHanded {} Try.checked os 13 .any (Rows.codecBackSpec.pre6 enc Try.prog Try.f13 Rows.codecBackRow.domain false) (Rows.codecBackSpec.post enc Try.prog Try.f13 false true false false) := by
  refine returnsInHanded_of_change_sized (C := Try.checked) own started (by kernel_rfl) Try.func13
    (ChangeSpec.witness6 (enc := enc) (C := Try.checked) false ⟨#[], #[.slice none 0 0, .slice none 0 0], []⟩ 8 (by kernel_rfl) (by kernel_rfl) (by kernel_rfl) (by kernel_rfl)) ?_
  intro W base args ds gs before hval0 hW hcnd hsz0 _
  have hval : ∀ (j : Nat) t v, Try.f13.params[j]? = some t → args[j]? = some v → Value.okWide Try.prog W .any base t v := hval0
  have hW' := hW
  obtain ⟨p, q, hA0, hV, rfl, hfz, hnd⟩ := hW
  have hA : DataW.TrodAll enc Try.prog W 0 (fun _ => true) true Try.f13.params.toList args.toList ds p := hA0
  rw [Try.params13] at hA hval
  obtain ⟨v0, vs0, d0, ds0, p0, q0, hargs, rfl, rfl, h0, r0⟩ := trodAll_cons hA
  obtain ⟨v1, vs1, d1, ds1, p1, q1, rfl, rfl, rfl, h1, r1⟩ := trodAll_cons r0
  obtain ⟨rfl, rfl, rfl⟩ := trodAll_nil r1
  obtain rfl : args = #[v0, v1] := by cases args; simp_all
  obtain ⟨rfl, rfl⟩ := trodVars_none hV
  obtain ⟨a0, len0, cap0, rfl⟩ := okWide_slice Try.underlying96 (hval 0 96 v0 rfl rfl)
  have k0 := h0
  have lt0 : ∀ x ∈ p0, x.block < W.heap.size := by obtain ⟨m, hm⟩ := k0; exact DataW.trod_lt m _ _ _ hm
  obtain ⟨l0, rfl, hC0, hle0, hw0⟩ := arg_slice (opens96 W) h0
  obtain ⟨a1, len1, cap1, rfl⟩ := okWide_slice Try.underlying28 (hval 1 28 v1 rfl rfl)
  have k1 := h1
  have lt1 : ∀ x ∈ p1, x.block < W.heap.size := by obtain ⟨m, hm⟩ := k1; exact DataW.trod_lt m _ _ _ hm
  obtain ⟨l1, rfl, hC1, hle1, hw1⟩ := arg_slice (opens28 W) h1
  clear hA0 hval0
  refine (Go.Proofs.Ythcpfkkddfgamaa.Cod.CodecBack_calls _ _ l0 _ _ l1 W hC0 hle0 hw0.2 hC1 hle1 (bytes_of hw1.2)).mono fun e W' hpost => ?_
  obtain ⟨he, bel0⟩ := hpost
  have bel : Below W.heap.size W W' := bel0
  subst he
  exact ⟨_, rfl, _, _, _, [], _, [], hW', trodAll_mk1 (shut_bool Try.underlying4 _), (trodAll_cons_mk (Below.trod laidOut (by kernel_rfl) (of_decide_eq_true (by kernel_rfl)) k0 bel lt0) (trodAll_cons_mk (Below.trod laidOut (by kernel_rfl) (of_decide_eq_true (by kernel_rfl)) k1 bel lt1) trodAll_mk0)), rfl, bel.frame _, fun h => by cases h⟩
theorem over : Rows.codecBackRow.holds Try.pinned (OpenSpec.ofChange Rows.codecBackSpec) :=
  OpenClaim.holds_of_wide 13 Try.f13 rfl rfl rfl rfl rfl rfl rfl ⟨rfl, rfl, rfl, rfl, rfl⟩ rfl rfl rfl rfl rfl (by kernel_rfl) Try.func13 (by kernel_rfl)
    (of_decide_eq_true (by kernel_rfl)) (by unfold Func.isWrapper; first | (rw [if_pos (by decide +kernel)]; kernel_rfl) | (rw [if_neg (by decide +kernel)]; exact ⟨rfl, rfl⟩))
    (fun os started H enc _ => lifted os started H enc)
theorem proved : Rows.CodecBackSaid := over
#print axioms proved
end Go.Proofs.Ythcpfkkddfgamaa.codecBack
namespace Go.Proofs.Ythcpfkkddfgamaa
/-- The row, under a short name, for the claim. -/
theorem codecBack_holds : Rows.CodecBackSaid := codecBack.proved
end Go.Proofs.Ythcpfkkddfgamaa
