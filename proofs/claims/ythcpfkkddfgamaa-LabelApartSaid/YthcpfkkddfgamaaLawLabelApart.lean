/- The row of LabelApart, out of the hand-written walk of the law's own function. No condition beside those that the row itself gives. -/
import Derived.Test.YthcpfkkddfgamaaRows
import Derived.Test.YthcpfkkddfgamaaLabA
import Derived.Test.YthcpfkkddfgamaaOpens
import Derived.Test.YthcpfkkddfgamaaWSized
import Derived.WalkKit
import Derived.ProofKit
import Derived.OpenShut
import Derived.ShutString
import Derived.ChangeOld
import Derived.Below
import Derived.SizedLaws
namespace Go.Proofs.Ythcpfkkddfgamaa.labelApart
open Go.ChangeShapes Go.WideShapes Go.ChangeAt Go.RowKit Go.Joins
open Go.ChangeMaps (open_string shut_string)
open Go.Proofs.YthcpfkkddfgamaaW.PrintWords Go.Proofs.YthcpfkkddfgamaaW.Opens Go.Proofs.Ythcpfkkddfgamaa.Base
set_option linter.unusedVariables false
set_option linter.unusedSimpArgs false
theorem own : ownKnob Try.prog.godebug = none := by kernel_rfl
theorem laidOut : laidOutB Try.prog = true := by kernel_rfl
theorem opens5 (W : World) : Opens Try.prog W (Kd.int .u8) (fun x => (Lit.int .u8 x).wf = true) 5 := Opens.int Try.underlying5
theorem opens28 (W : World) : Opens Try.prog W (Kd.slice 5 (Kd.int .u8)) (fun xs => xs.length ≤ maxLen ∧ ∀ x_ ∈ xs, (Lit.int .u8 x_).wf = true) 28 := Opens.slice Try.underlying28 (by kernel_rfl) (opens5 W)
theorem opens22 (W : World) : Opens Try.prog W (Kd.slice 28 (Kd.slice 5 (Kd.int .u8))) (fun xs => xs.length ≤ maxLen ∧ ∀ x_ ∈ xs, (x_.length ≤ maxLen ∧ ∀ x1_ ∈ x_, (Lit.int .u8 x1_).wf = true)) 22 := Opens.slice Try.underlying22 (by kernel_rfl) (opens28 W)
/-- An array of two slices of slices of bytes that came in. -/
theorem arg_arr2 {P : Program} {W : World} {H : Type} {enc : TypeId × Value → H} {t e e1 : TypeId} {α : Type} {d : Kd α} {wf : List α → Prop} {cs : Array Value} {D : DataW H} {p : List MemPlace} (hu : P.underlying t = some (.array 2 e)) (hc1 : P.cellsOf e = 1) (hcn : P.cellsOf t = 2) (ho : Opens P W (Kd.slice e1 d) wf e)
    (h : DataW.Trod enc P W 0 (fun _ => true) true t (.agg cs) D p) : ∃ A c l A' c' l', cs = #[.slice A (List.length l) c, .slice A' (List.length l') c'] ∧ List.length l ≤ c ∧ Kd.C d W A l.length l ∧ wf l ∧ List.length l' ≤ c' ∧ Kd.C d W A' l'.length l' ∧ wf l' := by
  obtain ⟨fuel, hf⟩ := h
  obtain ⟨hl, m, hm⟩ := array_each hu hf
  have hl' : cs.toList.length = 2 := hl.trans hcn
  have each : ∀ i, i < 2 → ∃ A c l, cs.toList[i]? = some (.slice A (List.length l) c) ∧ List.length l ≤ c ∧ Kd.C d W A l.length l ∧ wf l := by
    intro i hi
    obtain ⟨z, hz⟩ := hm i hi
    obtain ⟨l, ⟨A, c, hx, hle, hC⟩, hw⟩ := ho enc m _ _ hz
    rw [hc1, Nat.mul_one] at hx
    have hx' : (cs.toList.drop i).take 1 = [.slice A l.length c] := hx
    refine ⟨A, c, l, ?_, hle, hC, hw⟩
    have h0 : ((cs.toList.drop i).take 1)[0]? = some (.slice A l.length c) := by rw [hx']; rfl
    rw [List.getElem?_take_of_lt (by omega), List.getElem?_drop, Nat.add_zero] at h0
    exact h0
  obtain ⟨A, c, l, h0, h1, h2, h3⟩ := each 0 (by decide)
  obtain ⟨A', c', l', h0', h1', h2', h3'⟩ := each 1 (by decide)
  refine ⟨A, c, l, A', c', l', ?_, h1, h2, h3, h1', h2', h3'⟩
  apply Array.toList_inj.1
  refine List.ext_getElem? (fun i => ?_)
  match i with
  | 0 => rw [h0]; rfl
  | 1 => rw [h0']; rfl
  | n + 2 => rw [List.getElem?_eq_none (by omega), List.getElem?_eq_none (by simp)]
/-- An array of two arrays of two whole numbers that came in. -/
theorem arg_arr22 {P : Program} {W : World} {H : Type} {enc : TypeId × Value → H} {t e e1 : TypeId} {k : IntKind} {cs : Array Value} {D : DataW H} {p : List MemPlace} (hu : P.underlying t = some (.array 2 e)) (hc1 : P.cellsOf e = 2) (hcn : P.cellsOf t = 4) (hu1 : P.underlying e = some (.array 2 e1)) (he : P.underlying e1 = some (.int k)) (hce : P.cellsOf e1 = 1)
    (h : DataW.Trod enc P W 0 (fun _ => true) true t (.agg cs) D p) : ∃ x0 x1 x2 x3, cs = #[.int k x0, .int k x1, .int k x2, .int k x3] ∧ (Lit.int k x0).wf = true ∧ (Lit.int k x1).wf = true ∧ (Lit.int k x2).wf = true ∧ (Lit.int k x3).wf = true := by
  obtain ⟨fuel, hf⟩ := h
  obtain ⟨hl, m, hm⟩ := array_each hu hf
  have hl' : cs.toList.length = 4 := hl.trans hcn
  have each : ∀ i j, i < 2 → j < 2 → ∃ x, cs.toList[2 * i + j]? = some (.int k x) ∧ (Lit.int k x).wf = true := by
    intro i j hi hj
    obtain ⟨z, hz⟩ := hm i hi
    obtain ⟨_, m2, hm2⟩ := array_each hu1 hz
    obtain ⟨z2, hz2⟩ := hm2 j hj
    obtain ⟨x, hx, hwf⟩ := Opens.int he (W := W) enc m2 _ _ hz2
    rw [hc1, hce, Nat.mul_one] at hx
    have hx' : ((((cs.toList.drop (i * 2)).take 2).drop j).take 1) = [.int k x] := hx
    refine ⟨x, ?_, hwf⟩
    have h0 : ((((cs.toList.drop (i * 2)).take 2).drop j).take 1)[0]? = some (.int k x) := by rw [hx']; rfl
    rw [List.getElem?_take_of_lt (by omega), List.getElem?_drop, Nat.add_zero, List.getElem?_take_of_lt (by omega), List.getElem?_drop, Nat.mul_comm] at h0
    exact h0
  obtain ⟨x0, h0, w0⟩ := each 0 0 (by decide) (by decide)
  obtain ⟨x1, h1, w1⟩ := each 0 1 (by decide) (by decide)
  obtain ⟨x2, h2, w2⟩ := each 1 0 (by decide) (by decide)
  obtain ⟨x3, h3, w3⟩ := each 1 1 (by decide) (by decide)
  refine ⟨x0, x1, x2, x3, ?_, w0, w1, w2, w3⟩
  apply Array.toList_inj.1
  refine List.ext_getElem? (fun i => ?_)
  match i with
  | 0 => exact h0
  | 1 => exact h1
  | 2 => exact h2
  | 3 => exact h3
  | n + 4 => rw [List.getElem?_eq_none (by omega), List.getElem?_eq_none (by simp)]
set_option maxRecDepth 100000 in
theorem lifted (os : Os) (started : os.Started) (H : Type) (enc : TypeId × Value → H) :
    ReturnsInHanded {} Try.checked os 3 .any (Rows.labelApartSpec.pre6 enc Try.prog Try.f3 Rows.labelApartRow.domain false) (Rows.labelApartSpec.post enc Try.prog Try.f3 false true false false) := by
  refine returnsInHanded_of_change_sized (C := Try.checked) own started (by kernel_rfl) Try.func3
    (ChangeSpec.witness6 (enc := enc) (C := Try.checked) false ⟨#[], #[.agg #[.slice none 0 0, .slice none 0 0], .agg #[.int .i64 0, .int .i64 0, .int .i64 0, .int .i64 0]], []⟩ 8 (by kernel_rfl) (by kernel_rfl) (by kernel_rfl) (by kernel_rfl)) ?_
  intro W base args ds gs before hval0 hW hcnd hsz0 _
  have hval : ∀ (j : Nat) t v, Try.f3.params[j]? = some t → args[j]? = some v → Value.okWide Try.prog W .any base t v := hval0
  have hW' := hW
  obtain ⟨p, q, hA0, hV, rfl, hfz, hnd⟩ := hW
  have hA : DataW.TrodAll enc Try.prog W 0 (fun _ => true) true Try.f3.params.toList args.toList ds p := hA0
  rw [Try.params3] at hA hval
  obtain ⟨v0, vs0, d0, ds0, p0, q0, hargs, rfl, rfl, h0, r0⟩ := trodAll_cons hA
  obtain ⟨v1, vs1, d1, ds1, p1, q1, rfl, rfl, rfl, h1, r1⟩ := trodAll_cons r0
  obtain ⟨rfl, rfl, rfl⟩ := trodAll_nil r1
  obtain rfl : args = #[v0, v1] := by cases args; simp_all
  obtain ⟨rfl, rfl⟩ := trodVars_none hV
  obtain ⟨cs0, rfl, hs0⟩ := okWide_array Try.underlying23 (hval 0 23 v0 rfl rfl)
  have k0 := h0
  have lt0 : ∀ x ∈ p0, x.block < W.heap.size := by obtain ⟨m, hm⟩ := k0; exact DataW.trod_lt m _ _ _ hm
  obtain ⟨A0, c0, l0, B0, d0_, m0, rfl, hle0, hC0, hw0, hle0_, hC0_, hw0_⟩ := arg_arr2 Try.underlying23 (by kernel_rfl) (by kernel_rfl) (opens22 W) h0
  obtain ⟨cs1, rfl, hs1⟩ := okWide_array Try.underlying25 (hval 1 25 v1 rfl rfl)
  have k1 := h1
  have lt1 : ∀ x ∈ p1, x.block < W.heap.size := by obtain ⟨m, hm⟩ := k1; exact DataW.trod_lt m _ _ _ hm
  obtain ⟨x1, y1, z1, u1, rfl, hx1, hy1, hz1, hu1⟩ := arg_arr22 Try.underlying25 (by kernel_rfl) (by kernel_rfl) Try.underlying24 Try.underlying3 (by kernel_rfl) h1
  clear hA0 hval0
  refine (Go.Proofs.Ythcpfkkddfgamaa.Sha.LabelApart_calls _ _ l0 _ _ m0 x1 y1 z1 u1 W hC0 hle0 (fun x hx => bytes_of (hw0.2 x hx).2) hC0_ hle0_ (fun x hx => bytes_of (hw0_.2 x hx).2) hx1 hy1 hz1 hu1).mono fun e W' hpost => ?_
  obtain ⟨he, bel0⟩ := hpost
  have bel : Below W.heap.size W W' := bel0
  subst he
  exact ⟨_, rfl, _, _, _, [], _, [], hW', trodAll_mk1 (shut_bool Try.underlying4 _), (trodAll_cons_mk (Below.trod laidOut (by kernel_rfl) (of_decide_eq_true (by kernel_rfl)) k0 bel lt0) (trodAll_cons_mk (Below.trod laidOut (by kernel_rfl) (of_decide_eq_true (by kernel_rfl)) k1 bel lt1) trodAll_mk0)), rfl, bel.frame _, fun h => by cases h⟩
theorem over : Rows.labelApartRow.holds Try.pinned (OpenSpec.ofChange Rows.labelApartSpec) :=
  OpenClaim.holds_of_wide 3 Try.f3 rfl rfl rfl rfl rfl rfl rfl ⟨rfl, rfl, rfl, rfl, rfl⟩ rfl rfl rfl rfl rfl (by kernel_rfl) Try.func3 (by kernel_rfl)
    (of_decide_eq_true (by kernel_rfl)) (by unfold Func.isWrapper; first | (rw [if_pos (by decide +kernel)]; kernel_rfl) | (rw [if_neg (by decide +kernel)]; exact ⟨rfl, rfl⟩))
    (fun os started H enc _ => lifted os started H enc)
theorem proved : Rows.LabelApartSaid := over
#print axioms proved
end Go.Proofs.Ythcpfkkddfgamaa.labelApart
namespace Go.Proofs.Ythcpfkkddfgamaa
/-- The row, under a short name, for the claim. -/
theorem labelApart_holds : Rows.LabelApartSaid := labelApart.proved
end Go.Proofs.Ythcpfkkddfgamaa
