/- The row of KeysApart, out of the hand-written walk of the law's own function. No condition beside those that the row itself gives. -/
import Derived.Test.YthpkbamhpmgffaaRows
import Derived.Test.YthpkbamhpmgffaaKeyQ
import Derived.Test.YthpkbamhpmgffaaOpens
import Derived.Test.YthpkbamhpmgffaaWSized
import Derived.WalkKit
import Derived.ProofKit
import Derived.OpenShut
import Derived.ShutString
import Derived.ChangeOld
import Derived.Below
import Derived.SizedLaws
namespace Go.Proofs.Ythpkbamhpmgffaa.keysApart
open Go.ChangeShapes Go.WideShapes Go.ChangeAt Go.RowKit Go.Joins
open Go.ChangeMaps (open_string shut_string)
open Go.Proofs.YthpkbamhpmgffaaW.PrintWords Go.Proofs.YthpkbamhpmgffaaW.Opens Go.Proofs.Ythpkbamhpmgffaa.Base
set_option linter.unusedVariables false
set_option linter.unusedSimpArgs false
theorem own : ownKnob Try.prog.godebug = none := by kernel_rfl
theorem laidOut : laidOutB Try.prog = true := by kernel_rfl
/-- An array of whole numbers that came in: a list. -/
theorem arg_arr {P : Program} {W : World} {H : Type} {enc : TypeId × Value → H} {t e : TypeId} {n : Nat} {k : IntKind} {cs : Array Value} {D : DataW H} {p : List MemPlace} (hu : P.underlying t = some (.array n e)) (he : P.underlying e = some (.int k)) (hc1 : P.cellsOf e = 1) (hcn : P.cellsOf t = n)
    (h : DataW.Trod enc P W 0 (fun _ => true) true t (.agg cs) D p) : ∃ xs : List Int, xs.length = n ∧ cs = (xs.map (Value.int k)).toArray ∧ ∀ x ∈ xs, (Lit.int k x).wf = true := by
  obtain ⟨fuel, hf⟩ := h
  obtain ⟨hl, m, hm⟩ := array_each hu hf
  have hl' : cs.toList.length = n := hl.trans hcn
  have each : ∀ i, i < n → ∃ x, cs.toList[i]? = some (.int k x) ∧ (Lit.int k x).wf = true := by
    intro i hi
    obtain ⟨z, hz⟩ := hm i hi
    obtain ⟨x, hx, hwf⟩ := Opens.int he (W := W) enc m _ _ hz
    rw [hc1, Nat.mul_one] at hx
    have hx' : (cs.toList.drop i).take 1 = [.int k x] := hx
    refine ⟨x, ?_, hwf⟩
    have h0 : ((cs.toList.drop i).take 1)[0]? = some (.int k x) := by rw [hx']; rfl
    rw [List.getElem?_take_of_lt (by omega), List.getElem?_drop, Nat.add_zero] at h0
    exact h0
  obtain ⟨xs, hxl, hxs⟩ := exists_list (fun i x => cs.toList[i]? = some (.int k x) ∧ (Lit.int k x).wf = true) n each
  refine ⟨xs, hxl, ?_, fun x hx => ?_⟩
  · apply Array.toList_inj.1
    refine List.ext_getElem? (fun i => ?_)
    rcases Nat.lt_or_ge i n with hi | hi
    · obtain ⟨h1, _⟩ := hxs i xs[i] (List.getElem?_eq_getElem (by omega))
      rw [h1]
      simp [hxl, hi]
    · rw [List.getElem?_eq_none (by omega), List.getElem?_eq_none (by simp; omega)]
  · obtain ⟨i, hi⟩ := List.getElem?_of_mem hx
    exact (hxs i x hi).2
set_option maxRecDepth 100000 in
theorem lifted (os : Os) (started : os.Started) (H : Type) (enc : TypeId × Value → H) :
    ReturnsInHanded {} Try.checked os 11 .any (Rows.keysApartSpec.pre6 enc Try.prog Try.f11 Rows.keysApartRow.domain false) (Rows.keysApartSpec.post enc Try.prog Try.f11 false true false false) := by
  refine returnsInHanded_of_change_sized (C := Try.checked) own started (by kernel_rfl) Try.func11
    (ChangeSpec.witness6 (enc := enc) (C := Try.checked) false ⟨#[], #[.agg #[.int .u8 0, .int .u8 0, .int .u8 0, .int .u8 0, .int .u8 0, .int .u8 0, .int .u8 0, .int .u8 0, .int .u8 0, .int .u8 0, .int .u8 0, .int .u8 0, .int .u8 0, .int .u8 0, .int .u8 0, .int .u8 0, .int .u8 0, .int .u8 0, .int .u8 0, .int .u8 0, .int .u8 0, .int .u8 0, .int .u8 0, .int .u8 0, .int .u8 0, .int .u8 0, .int .u8 0, .int .u8 0, .int .u8 0, .int .u8 0, .int .u8 0, .int .u8 0], .agg #[.int .i64 0, .int .i64 0], .agg #[.int .i64 0, .int .i64 0]], []⟩ 8 (by kernel_rfl) (by kernel_rfl) (by kernel_rfl) (by kernel_rfl)) ?_
  intro W base args ds gs before hval0 hW hcnd hsz0 _
  have hval : ∀ (j : Nat) t v, Try.f11.params[j]? = some t → args[j]? = some v → Value.okWide Try.prog W .any base t v := hval0
  have hW' := hW
  obtain ⟨p, q, hA0, hV, rfl, hfz, hnd⟩ := hW
  have hA : DataW.TrodAll enc Try.prog W 0 (fun _ => true) true Try.f11.params.toList args.toList ds p := hA0
  rw [Try.params11] at hA hval
  obtain ⟨v0, vs0, d0, ds0, p0, q0, hargs, rfl, rfl, h0, r0⟩ := trodAll_cons hA
  obtain ⟨v1, vs1, d1, ds1, p1, q1, rfl, rfl, rfl, h1, r1⟩ := trodAll_cons r0
  obtain ⟨v2, vs2, d2, ds2, p2, q2, rfl, rfl, rfl, h2, r2⟩ := trodAll_cons r1
  obtain ⟨rfl, rfl, rfl⟩ := trodAll_nil r2
  obtain rfl : args = #[v0, v1, v2] := by cases args; simp_all
  obtain ⟨rfl, rfl⟩ := trodVars_none hV
  obtain ⟨cs0, rfl, hs0⟩ := okWide_array Try.underlying38 (hval 0 38 v0 rfl rfl)
  have k0 := h0
  have lt0 : ∀ x ∈ p0, x.block < W.heap.size := by obtain ⟨m, hm⟩ := k0; exact DataW.trod_lt m _ _ _ hm
  obtain ⟨l0, hn0, rfl, hw0⟩ := arg_arr Try.underlying38 Try.underlying5 (by kernel_rfl) (by kernel_rfl) h0
  obtain ⟨cs1, rfl, hs1⟩ := okWide_array Try.underlying60 (hval 1 60 v1 rfl rfl)
  have k1 := h1
  have lt1 : ∀ x ∈ p1, x.block < W.heap.size := by obtain ⟨m, hm⟩ := k1; exact DataW.trod_lt m _ _ _ hm
  obtain ⟨l1, hn1, rfl, hw1⟩ := arg_arr Try.underlying60 Try.underlying3 (by kernel_rfl) (by kernel_rfl) h1
  obtain ⟨cs2, rfl, hs2⟩ := okWide_array Try.underlying60 (hval 2 60 v2 rfl rfl)
  have k2 := h2
  have lt2 : ∀ x ∈ p2, x.block < W.heap.size := by obtain ⟨m, hm⟩ := k2; exact DataW.trod_lt m _ _ _ hm
  obtain ⟨l2, hn2, rfl, hw2⟩ := arg_arr Try.underlying60 Try.underlying3 (by kernel_rfl) (by kernel_rfl) h2
  clear hA0 hval0
  refine (Go.Proofs.Ythpkbamhpmgffaa.Sha.KeysApart_calls l0 l1 l2 W hn0 (bytes_of hw0) hn1 hw1 hn2 hw2).mono fun e W' hpost => ?_
  obtain ⟨he, bel0⟩ := hpost
  have bel : Below W.heap.size W W' := bel0
  subst he
  exact ⟨_, rfl, _, _, _, [], _, [], hW', trodAll_mk1 (shut_bool Try.underlying4 _), (trodAll_cons_mk (Below.trod laidOut (by kernel_rfl) (of_decide_eq_true (by kernel_rfl)) k0 bel lt0) (trodAll_cons_mk (Below.trod laidOut (by kernel_rfl) (of_decide_eq_true (by kernel_rfl)) k1 bel lt1) (trodAll_cons_mk (Below.trod laidOut (by kernel_rfl) (of_decide_eq_true (by kernel_rfl)) k2 bel lt2) trodAll_mk0))), rfl, bel.frame _, fun h => by cases h⟩
theorem over : Rows.keysApartRow.holds Try.pinned (OpenSpec.ofChange Rows.keysApartSpec) :=
  OpenClaim.holds_of_wide 11 Try.f11 rfl rfl rfl rfl rfl rfl rfl ⟨rfl, rfl, rfl, rfl, rfl⟩ rfl rfl rfl rfl rfl (by kernel_rfl) Try.func11 (by kernel_rfl)
    (of_decide_eq_true (by kernel_rfl)) (by unfold Func.isWrapper; first | (rw [if_pos (by decide +kernel)]; kernel_rfl) | (rw [if_neg (by decide +kernel)]; exact ⟨rfl, rfl⟩))
    (fun os started H enc _ => lifted os started H enc)
theorem proved : Rows.KeysApartSaid := over
#print axioms proved
end Go.Proofs.Ythpkbamhpmgffaa.keysApart
namespace Go.Proofs.Ythpkbamhpmgffaa
/-- The row, under a short name, for the claim. -/
theorem keysApart_holds : Rows.KeysApartSaid := keysApart.proved
end Go.Proofs.Ythpkbamhpmgffaa
