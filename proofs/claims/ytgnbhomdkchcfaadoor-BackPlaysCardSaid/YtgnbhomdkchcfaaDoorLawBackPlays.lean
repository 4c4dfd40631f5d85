/- By a program of this session (wip/tool/pp.py): plain Lean functions of the Go functions that this family of laws uses, the walks that the Go code comes to their answers, and the row of the law. No condition beside those that the row itself gives. -/
import Derived.Test.YtgnbhomdkchcfaaDoorRows
import Derived.Test.YtgnbhomdkchcfaaDoorPF15Px5
import Derived.Test.YtgnbhomdkchcfaaDoorBakV
import Derived.Test.YtgnbhomdkchcfaaDoorTie
import Derived.Test.YtgnbhomdkchcfaaDoorCards
import Derived.Test.YtgnbhomdkchcfaaDoorOpens
import Derived.Test.YtgnbhomdkchcfaaDoorWSized
import Derived.WalkKit
import Derived.ProofKit
import Derived.OpenShut
import Derived.ShutString
import Derived.ChangeOld
import Derived.Below
import Derived.SizedLaws
import Derived.LaidMore
import Derived.Lay
import Derived.SevenTiedAt
import Derived.Stop.Joined
namespace Go.Proofs.YtgnbhomdkchcfaaDoor.backPlays
open Go.ChangeShapes Go.WideShapes Go.ChangeAt Go.RowKit Go.Joins
open Go.ChangeMaps (open_string shut_string)
open Go.Proofs.YtgnbhomdkchcfaaDoorW.PrintWords Go.Proofs.YtgnbhomdkchcfaaDoorW.Opens Go.Proofs.YtgnbhomdkchcfaaDoor.PF15P
set_option linter.unusedVariables false
set_option linter.unusedSimpArgs false
theorem own : ownKnob Tryd.prog.godebug = none := by kernel_rfl
theorem laidOut : laidOutB Tryd.prog = true := by kernel_rfl
theorem opens21 (W : World) : Opens Tryd.prog W (Kd.int .i32) (fun x => (Lit.int .i32 x).wf = true) 21 := Opens.int Tryd.underlying21
theorem opens3 (W : World) : Opens Tryd.prog W (Kd.int .i64) (fun x => (Lit.int .i64 x).wf = true) 3 := Opens.int Tryd.underlying3
theorem opens26 (W : World) : Opens Tryd.prog W k26 WF26 26 := by
  intro H enc fuel cs y h
  obtain ⟨hl, n, he⟩ := struct_each Tryd.underlying26 h
  have hl2 : cs.length = 3 := hl.trans (by kernel_rfl)
  obtain ⟨z0, e0⟩ := he 0 _ rfl
  have e0_ : DataW.trod enc Tryd.prog W 0 (fun _ => true) true n 3 ((cs.drop 0).take (Tryd.prog.cellsOf 3)) = some z0 := e0
  obtain ⟨x0, k0_, w0⟩ := opens3 W enc n _ _ e0_
  rw [show Tryd.prog.cellsOf 3 = 1 from by kernel_rfl] at k0_
  obtain ⟨z1, e1⟩ := he 1 _ rfl
  have e1_ : DataW.trod enc Tryd.prog W 0 (fun _ => true) true n 3 ((cs.drop 1).take (Tryd.prog.cellsOf 3)) = some z1 := e1
  obtain ⟨x1, k1_, w1⟩ := opens3 W enc n _ _ e1_
  rw [show Tryd.prog.cellsOf 3 = 1 from by kernel_rfl] at k1_
  obtain ⟨z2, e2⟩ := he 2 _ rfl
  have e2_ : DataW.trod enc Tryd.prog W 0 (fun _ => true) true n 3 ((cs.drop 2).take (Tryd.prog.cellsOf 3)) = some z2 := e2
  obtain ⟨x2, k2_, w2⟩ := opens3 W enc n _ _ e2_
  rw [show Tryd.prog.cellsOf 3 = 1 from by kernel_rfl] at k2_
  have k0__ : (Kd.int .i64).K W x0 (cs.take 1) := by
    have hq : cs.take 1 = (cs.drop 0).take 1 := by
      try simp only [List.drop_drop, List.drop_zero, Nat.reduceAdd, Nat.reduceMul]
      first | done | rfl | exact (List.take_of_length_le (by simp only [List.length_drop]; omega)).symm | exact (List.take_of_length_le (by omega)).symm
    rw [hq]
    exact k0_
  have k1__ : (Kd.int .i64).K W x1 ((cs.drop 1).take 1) := by
    have hq : (cs.drop 1).take 1 = (cs.drop 1).take 1 := by
      try simp only [List.drop_drop, List.drop_zero, Nat.reduceAdd, Nat.reduceMul]
      first | done | rfl | exact (List.take_of_length_le (by simp only [List.length_drop]; omega)).symm | exact (List.take_of_length_le (by omega)).symm
    rw [hq]
    exact k1_
  have k2__ : (Kd.int .i64).K W x2 (((cs.drop 1).drop 1)) := by
    have hq : ((cs.drop 1).drop 1) = (cs.drop 2).take 1 := by
      try simp only [List.drop_drop, List.drop_zero, Nat.reduceAdd, Nat.reduceMul]
      first | done | rfl | exact (List.take_of_length_le (by simp only [List.length_drop]; omega)).symm | exact (List.take_of_length_le (by omega)).symm
    rw [hq]
    exact k2_
  exact ⟨⟨x0, x1, x2⟩, (show k26.K W ⟨x0, x1, x2⟩ cs from (pair_K 1 k0__ (pair_K 1 k1__ k2__))), w0, w1, w2⟩
theorem opens28 (W : World) : Opens Tryd.prog W k28 WF28 28 := by
  intro H enc fuel cs y h
  obtain ⟨hl, n, he⟩ := struct_each Tryd.underlying28 h
  have hl2 : cs.length = 4 := hl.trans (by kernel_rfl)
  obtain ⟨z0, e0⟩ := he 0 _ rfl
  have e0_ : DataW.trod enc Tryd.prog W 0 (fun _ => true) true n 21 ((cs.drop 0).take (Tryd.prog.cellsOf 21)) = some z0 := e0
  obtain ⟨x0, k0_, w0⟩ := opens21 W enc n _ _ e0_
  rw [show Tryd.prog.cellsOf 21 = 1 from by kernel_rfl] at k0_
  obtain ⟨z1, e1⟩ := he 1 _ rfl
  have e1_ : DataW.trod enc Tryd.prog W 0 (fun _ => true) true n 26 ((cs.drop 1).take (Tryd.prog.cellsOf 26)) = some z1 := e1
  obtain ⟨x1, k1_, w1⟩ := opens26 W enc n _ _ e1_
  rw [show Tryd.prog.cellsOf 26 = 3 from by kernel_rfl] at k1_
  have k0__ : (Kd.int .i32).K W x0 (cs.take 1) := by
    have hq : cs.take 1 = (cs.drop 0).take 1 := by
      try simp only [List.drop_drop, List.drop_zero, Nat.reduceAdd, Nat.reduceMul]
      first | done | rfl | exact (List.take_of_length_le (by simp only [List.length_drop]; omega)).symm | exact (List.take_of_length_le (by omega)).symm
    rw [hq]
    exact k0_
  have k1__ : k26.K W x1 ((cs.drop 1)) := by
    have hq : (cs.drop 1) = (cs.drop 1).take 3 := by
      try simp only [List.drop_drop, List.drop_zero, Nat.reduceAdd, Nat.reduceMul]
      first | done | rfl | exact (List.take_of_length_le (by simp only [List.length_drop]; omega)).symm | exact (List.take_of_length_le (by omega)).symm
    rw [hq]
    exact k1_
  exact ⟨⟨x0, x1⟩, (show k28.K W ⟨x0, x1⟩ cs from (pair_K 1 k0__ k1__)), w0, w1⟩
theorem opens22 (W : World) : Opens Tryd.prog W (Kd.slice 28 k28) (fun xs => xs.length ≤ maxLen ∧ ∀ x_ ∈ xs, WF28 x_) 22 := Opens.slice Tryd.underlying22 (by kernel_rfl) (opens28 W)
theorem opens30 (W : World) : Opens Tryd.prog W (Kd.slice 22 (Kd.slice 28 k28)) (fun xs => xs.length ≤ maxLen ∧ ∀ x_ ∈ xs, (x_.length ≤ maxLen ∧ ∀ x1_ ∈ x_, WF28 x1_)) 30 := Opens.slice Tryd.underlying30 (by kernel_rfl) (opens22 W)
set_option maxRecDepth 100000 in
theorem lifted (os : Os) (started : os.Started) (H : Type) (enc : TypeId × Value → H) :
    ReturnsInHanded {} Tryd.checked os 4 .any (fun w args => (Rows.backPlaysSpec.pre enc Tryd.prog Tryd.f4 Rows.backPlaysRow.domain false w args ∧ laidMetH Tryd.prog Rows.backPlaysRow.laid w) ∧ sizedMet enc Tryd.prog Tryd.f4 (OpenSpec.ofChange Rows.backPlaysSpec) false w args)
      (Rows.backPlaysSpec.post enc Tryd.prog Tryd.f4 false true false false) := by
  refine returnsInHanded_of_change_and (C := Tryd.checked) (X := fun w _ => laidMetH Tryd.prog Rows.backPlaysRow.laid w) (fun _ _ _ hh h => h.of_heap hh) own started (by kernel_rfl) Tryd.func4
    (ChangeSpec.witness_shaped (enc := enc) (C := Tryd.checked) (os := os) (X := fun w _ => laidMetH Tryd.prog Rows.backPlaysRow.laid w) false (World.laidAll Tryd.prog os Rows.backPlaysRow.laid) #[.int .i64 0, .slice none 0 0, .int .i64 0] 8 (World.laidAll_os _ _ _)
      (World.shaped_of_ZipB (by kernel_rfl) (by kernel_rfl)) (by kernel_rfl) (by kernel_rfl) (by kernel_rfl)
      (by rw [MakeChecks.laidMetH_plain _ _ _ (by kernel_rfl)]; exact laidMet_laidAll _ (by kernel_rfl) (by kernel_rfl))) ?_
  intro W base args ds gs before hval0 hW hcnd hsz0 hL _
  have hval : ∀ (j : Nat) t v, Tryd.f4.params[j]? = some t → args[j]? = some v → Value.okWide Tryd.prog W .any base t v := hval0
  have hW' := hW
  obtain ⟨p, q, hA0, hV, rfl, hfz, hnd⟩ := hW
  have hA : DataW.TrodAll enc Tryd.prog W 0 (fun _ => true) true Tryd.f4.params.toList args.toList ds p := hA0
  rw [Tryd.params4] at hA hval
  obtain ⟨v0, vs0, d0, ds0, p0, q0, hargs, rfl, rfl, h0, r0⟩ := trodAll_cons hA
  obtain ⟨v1, vs1, d1, ds1, p1, q1, rfl, rfl, rfl, h1, r1⟩ := trodAll_cons r0
  obtain ⟨v2, vs2, d2, ds2, p2, q2, rfl, rfl, rfl, h2, r2⟩ := trodAll_cons r1
  obtain ⟨rfl, rfl, rfl⟩ := trodAll_nil r2
  obtain rfl : args = #[v0, v1, v2] := by cases args; simp_all
  obtain ⟨rfl, rfl⟩ := trodVars_none hV
  obtain ⟨a0, rfl, rfl, rfl, w0⟩ := open_int Tryd.underlying3 (hval 0 3 v0 rfl rfl) h0
  obtain ⟨a1, len1, cap1, rfl⟩ := okWide_slice Tryd.underlying30 (hval 1 30 v1 rfl rfl)
  have k1 := h1
  have lt1 : ∀ x ∈ p1, x.block < W.heap.size := by obtain ⟨m, hm⟩ := k1; exact DataW.trod_lt m _ _ _ hm
  obtain ⟨l1, rfl, hC1, hle1, hw1⟩ := arg_slice (opens30 W) h1
  obtain ⟨a2, rfl, rfl, rfl, w2⟩ := open_int Tryd.underlying3 (hval 2 3 v2 rfl rfl) h2
  clear hA0 hval0
  have hb2 := bounds_i64 w2
  refine (PF15P.BackPlays_calls _ _ l1 a0 a2 W hC1 hle1 (by omega) (by omega)).mono fun e W' hpost => ?_
  obtain ⟨he, bel0⟩ := hpost
  have bel : Below W.heap.size W W' := bel0
  subst he
  exact ⟨_, rfl, _, _, _, [], _, [], hW', trodAll_mk1 (shut_bool Tryd.underlying4 _), (trodAll_cons_mk (shut_int Tryd.underlying3 w0) (trodAll_cons_mk (Below.trod laidOut (by kernel_rfl) (of_decide_eq_true (by kernel_rfl)) k1 bel lt1) (trodAll_cons_mk (shut_int Tryd.underlying3 w2) trodAll_mk0))), rfl, bel.frame _, fun h => by cases h⟩
theorem over : Rows.backPlaysRow.holds Tryd.pinned (OpenSpec.ofChange Rows.backPlaysSpec) :=
  OpenClaim.holds_of_wide 4 Tryd.f4 rfl rfl rfl rfl rfl rfl rfl ⟨rfl, rfl, rfl, rfl, rfl⟩ rfl rfl rfl rfl rfl (by kernel_rfl) Tryd.func4 (by kernel_rfl)
    (of_decide_eq_true (by kernel_rfl)) (by unfold Func.isWrapper; first | (rw [if_pos (by decide +kernel)]; kernel_rfl) | (rw [if_neg (by decide +kernel)]; exact ⟨rfl, rfl⟩))
    (fun os started H enc _ => lifted os started H enc)
theorem proved : Rows.BackPlaysSaid := over
theorem card : Rows.BackPlaysCardSaid :=
  Claim7.holds_tied_plain_at .later [] [.data, .pinned] true (true, "051e1bd1d26813690f1d9a468b6da7482dd042665e68f940b1f3bd32902ef2f6") false over (fun _ h => by cases h) (by kernel_rfl) (fun _ h => by cases h) backPlays_row_tie rfl ⟨rfl, rfl⟩ (by kernel_rfl) rfl
    (fun f fn hf hfn => by
      obtain rfl : f = 4 := Option.some.inj ((show Tryd.prog.funcNamed "baton/batonlaw15.BackPlays" = some 4 by kernel_rfl).symm.trans hf) |>.symm
      obtain rfl : fn = Tryd.f4 := (Option.some.inj (Tryd.func4.symm.trans hfn)).symm
      exact ⟨by kernel_rfl, fun j t ht => by
        rw [Tryd.params4] at ht
        have hm : t ∈ [3,30,3] := by simpa using Array.mem_of_getElem? ht
        have hall : ([3,30,3].all fun u => !Tryd.prog.wantsStandIn u) = true := by kernel_rfl
        exact (show Tryd.prog.wantsStandIn t = false by simpa using List.all_eq_true.1 hall t hm)⟩)
    (by kernel_rfl)
#print axioms card
end Go.Proofs.YtgnbhomdkchcfaaDoor.backPlays
namespace Go.Proofs.YtgnbhomdkchcfaaDoor
/-- The card, under a short name, for the claim. -/
theorem backPlays_card_holds : Rows.BackPlaysCardSaid := backPlays.card
end Go.Proofs.YtgnbhomdkchcfaaDoor
