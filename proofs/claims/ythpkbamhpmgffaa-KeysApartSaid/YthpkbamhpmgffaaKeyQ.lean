/- Hand-written walks and plain lemmas: what each Go function comes to (KeyJ). No condition. -/
import Derived.Test.YthpkbamhpmgffaaKeyOne
import Derived.Test.YthpkbamhpmgffaaKeyO
namespace Go.Proofs.Ythpkbamhpmgffaa.Sha
open Go.AnyFacts Go.RowKit Go.Proofs.YthpkbamhpmgffaaW.Hand Go.Proofs.YthpkbamhpmgffaaW.PrintWords Go.Proofs.YthpkbamhpmgffaaW.PrintLast Go.Proofs.YthpkbamhpmgffaaW.PrintMore Go.Proofs.Ythpkbamhpmgffaa.PF02 Go.Proofs.Ythpkbamhpmgffaa.Base Go.Proofs.Ythpkbamhpmgffaa.LF02
set_option linter.unusedVariables false
set_option linter.unusedSimpArgs false
theorem flip8_inj {x y : Int} (hx : -9223372036854775808 ≤ x ∧ x ≤ 9223372036854775807) (hy : -9223372036854775808 ≤ y ∧ y ≤ 9223372036854775807) (h : flip8 x = flip8 y) : x = y := by
  rw [← flip8_add, ← flip8_add] at h
  simp only [IntKind.wrap_u64] at h
  omega
theorem num8_inj {x y : Int} (hx : -9223372036854775808 ≤ x ∧ x ≤ 9223372036854775807) (hy : -9223372036854775808 ≤ y ∧ y ≤ 9223372036854775807) (h : num8 x = num8 y) : x = y := by
  refine flip8_inj hx hy ?_
  have b1 := bits_u64 .xor (IntKind.u64.wrap x) 9223372036854775808
  have b2 := bits_u64 .xor (IntKind.u64.wrap y) 9223372036854775808
  have e1 := num_be (n := flip8 x) (s := 8) (by omega) b1.1 (by have := b1.2; show flip8 x < _; unfold flip8; omega)
  have e2 := num_be (n := flip8 y) (s := 8) (by omega) b2.1 (by have := b2.2; show flip8 y < _; unfold flip8; omega)
  rw [← e1, ← e2]
  exact congrArg num h
theorem label2_inj (s : ByteArray) {p q r t : Int} (hp : -9223372036854775808 ≤ p ∧ p ≤ 9223372036854775807) (hq : -9223372036854775808 ≤ q ∧ q ≤ 9223372036854775807) (hr : -9223372036854775808 ≤ r ∧ r ≤ 9223372036854775807) (ht : -9223372036854775808 ≤ t ∧ t ≤ 9223372036854775807) : (labelL s [p, q] = labelL s [r, t]) ↔ ([p, q] = [r, t]) := by
  constructor
  · intro h
    unfold labelL at h
    have h1 := List.append_cancel_left h
    simp only [List.map_cons, List.map_nil, List.flatten_cons, List.flatten_nil, List.append_nil] at h1
    obtain ⟨h2, h3⟩ := List.append_inj h1 (by rw [num8_length, num8_length])
    rw [num8_inj hp hr h2, num8_inj hq ht h3]
  · intro h
    rw [h]
theorem label_pd (a b : List Int) : labelL { data := #[112, 97, 99, 107, 101, 116] } a ≠ labelL { data := #[100, 101, 118, 105, 99, 101] } b := by
  intro h
  have := congrArg (fun l => l.head?) h
  simp [labelL, bytesS] at this
theorem i64_of {x : Int} (h : (Lit.int .i64 x).wf = true) : -9223372036854775808 ≤ x ∧ x ≤ 9223372036854775807 := by
  have h' := h
  simp [Lit.wf] at h'
  exact ⟨h'.1, h'.2⟩
theorem below_of_drew {w w' : World} {B : Nat} (h : Below B w.drew w') : Below B w w' := (below_drew (Below.refl _ _)).trans h
set_option maxHeartbeats 8000000 in
set_option maxRecDepth 100000 in
theorem KeysApart_same (sec : List Int) (p q : Int) (w : World) (hsl : sec.length = 32) (hBs : Bytes sec) :
    Calls Try.prog 11 #[.agg (arr .u8 sec), .agg (arr .i64 [p, q]), .agg (arr .i64 [p, q])] w fun e w' => e = .returned (.bool true) ∧ Below w.heap.size w w' := by
  have HBS := Aside0.mk hBs
  have HSL := Aside0.mk hsl
  have HB := Aside0.mk (show decide ([p, q] = [p, q]) = true from decide_eq_true rfl)
  have HUV := Aside0.mk (show decide (labelL { data := #[112, 97, 99, 107, 101, 116] } [p, q] = labelL { data := #[112, 97, 99, 107, 101, 116] } [p, q]) = true from decide_eq_true rfl)
  clear hBs hsl
  go_enter Try.func11, Try.ntmps11
  go_wp2_with (first | ((with_reducible refine gate_dst (N := 3) rfl ?_); refine L_box rfl 38 (.tmp 0) rfl ((.agg (arr .u8 (sec)))) rfl ?_; intro g3 w1 hb3 hg3 hs3 hl3; have HB3 := Aside0.mk hb3; clear hb3; have HG3 := Aside0.mk hg3; clear hg3; have HS3 := Aside0.mk hs3; clear hs3; have HL3 := Aside0.mk hl3; clear hl3) | ((with_reducible refine gate_dst (N := 4) rfl ?_); refine L_box rfl 60 (.tmp 1) rfl ((.agg (arr .i64 [p, q]))) rfl ?_; intro g4 w2 hb4 hg4 hs4 hl4; have HB4 := Aside0.mk hb4; clear hb4; have HG4 := Aside0.mk hg4; clear hg4; have HS4 := Aside0.mk hs4; clear hs4; have HL4 := Aside0.mk hl4; clear hl4) | ((with_reducible refine gate_dst (N := 5) rfl ?_); refine L_box rfl 60 (.tmp 2) rfl ((.agg (arr .i64 [p, q]))) rfl ?_; intro g5 w3 hb5 hg5 hs5 hl5; have HB5 := Aside0.mk hb5; clear hb5; have HG5 := Aside0.mk hg5; clear hg5; have HS5 := Aside0.mk hs5; clear hs5; have HL5 := Aside0.mk hl5; clear hl5) | (go_at_call 33; refine (awake05_calls _).mono ?_; rintro e wa ⟨rfl, hba⟩; have HBA := Aside0.mk hba; clear hba))
  have HX3 := Aside0.mk ((HBA.out.block g3 (Nat.lt_of_lt_of_le (blk_lt HB3.out) (Nat.le_trans HL4.out.size HL5.out.size))).trans ((HL5.out.block g3 (Nat.lt_of_lt_of_le (blk_lt HB3.out) HL4.out.size)).trans ((HL4.out.block g3 (blk_lt HB3.out)).trans HB3.out)))
  have HX4 := Aside0.mk ((HBA.out.block g4 (Nat.lt_of_lt_of_le (blk_lt HB4.out) HL5.out.size)).trans ((HL5.out.block g4 (blk_lt HB4.out)).trans HB4.out))
  have HX5 := Aside0.mk ((HBA.out.block g5 (blk_lt HB5.out)).trans HB5.out)
  have HBE := Aside0.mk (below_step (below_step (below_step HL3.out HL4.out) HL5.out) HBA.out)
  clear HB3 HG3 HS3 HL3 HB4 HG4 HS4 HL4 HB5 HG5 HS5 HL5 HBA
  refine region_facts (by kernel_rfl) (getS [fun v _ => v = (.slice (some ⟨g4, 0, none⟩) 2 2), fun v w => ∃ A c, v = .slice A (labelL { data := #[112, 97, 99, 107, 101, 116] } [p, q]).length c ∧ (labelL { data := #[112, 97, 99, 107, 101, 116] } [p, q]).length ≤ c ∧ Kd.C (Kd.int .u8) w A (labelL { data := #[112, 97, 99, 107, 101, 116] } [p, q]).length (labelL { data := #[112, 97, 99, 107, 101, 116] } [p, q]), fun v _ => v = (.slice (some ⟨g5, 0, none⟩) 2 2), fun v w => ∃ A c, v = .slice A (labelL { data := #[112, 97, 99, 107, 101, 116] } [p, q]).length c ∧ (labelL { data := #[112, 97, 99, 107, 101, 116] } [p, q]).length ≤ c ∧ Kd.C (Kd.int .u8) w A (labelL { data := #[112, 97, 99, 107, 101, 116] } [p, q]).length (labelL { data := #[112, 97, 99, 107, 101, 116] } [p, q]), fun v w => ∃ A c, v = .slice A (labelL { data := #[112, 97, 99, 107, 101, 116] } [p, q]).length c ∧ (labelL { data := #[112, 97, 99, 107, 101, 116] } [p, q]).length ≤ c ∧ Kd.C (Kd.int .u8) w A (labelL { data := #[112, 97, 99, 107, 101, 116] } [p, q]).length (labelL { data := #[112, 97, 99, 107, 101, 116] } [p, q]), fun v w => ∃ A c, v = .slice A (labelL { data := #[112, 97, 99, 107, 101, 116] } [p, q]).length c ∧ (labelL { data := #[112, 97, 99, 107, 101, 116] } [p, q]).length ≤ c ∧ Kd.C (Kd.int .u8) w A (labelL { data := #[112, 97, 99, 107, 101, 116] } [p, q]).length (labelL { data := #[112, 97, 99, 107, 101, 116] } [p, q])]) (fun _ => false) 6 (by kernel_rfl) (AllStab.spec (.cons (stab_val _) (.cons (stab_C _ _) (.cons (stab_val _) (.cons (stab_C _ _) (.cons (stab_C _ _) (.cons (stab_C _ _) .nil))))))) (dst_of (by kernel_rfl)) (EachOp.of ?rop11_3) ?rfin11_3
  case rop11_3 =>
    refine .cons (fun did a W h hd => ?_) ?_
    · have k4 : a.eval (.tmp 4) = .pointer (some ⟨g4, 0, none⟩) := h.kept 4 (by kernel_rfl)
      exact A_cutarr (wanted_none rfl) 60 3 2 (.tmp 4) rfl Try.underlying60 (by kernel_rfl) g4 k4 rfl rfl
    refine .cons (fun did a W h hd => ?_) ?_
    · have f0 : a.eval (.tmp 12) = (.slice (some ⟨g4, 0, none⟩) 2 2) := h.fact 0 (by decide) (hd 0 (by kernel_rfl))
      exact A_call (wanted_none rfl) 36 #[.const (.string { data := #[112, 97, 99, 107, 101, 116] }), .tmp 12] #[9, 59] rfl #[.string { data := #[112, 97, 99, 107, 101, 116] }, .slice (some ⟨g4, 0, none⟩) 2 2] (by simp only [List.map_toArray, List.map_cons, List.map_nil, f0] <;> rfl) (by kernel_rfl) ((refOf_calls { data := #[112, 97, 99, 107, 101, 116] } (some ⟨g4, 0, none⟩) 2 [p, q] _ (by decide) (C_arr (xs := [p, q]) ((h.below.block g4 (blk_lt HX4.out)).trans HX4.out) (by simp)) (by simp) (by simp)).mono fun e w' ⟨A, c, h1, h2, h3, h4⟩ => ⟨_, h1, h4, A, c, rfl, h2, h3⟩) rfl
    refine .cons (fun did a W h hd => ?_) ?_
    · have k5 : a.eval (.tmp 5) = .pointer (some ⟨g5, 0, none⟩) := h.kept 5 (by kernel_rfl)
      exact A_cutarr (wanted_none rfl) 60 3 2 (.tmp 5) rfl Try.underlying60 (by kernel_rfl) g5 k5 rfl rfl
    refine .cons (fun did a W h hd => ?_) ?_
    · obtain ⟨A1_, c1_, f1, l1, b1⟩ : ∃ A c, a.eval (.tmp 13) = .slice A (labelL { data := #[112, 97, 99, 107, 101, 116] } [p, q]).length c ∧ (labelL { data := #[112, 97, 99, 107, 101, 116] } [p, q]).length ≤ c ∧ Kd.C (Kd.int .u8) W A (labelL { data := #[112, 97, 99, 107, 101, 116] } [p, q]).length (labelL { data := #[112, 97, 99, 107, 101, 116] } [p, q]) := h.fact 1 (by decide) (hd 1 (by kernel_rfl))
      have f2 : a.eval (.tmp 14) = (.slice (some ⟨g5, 0, none⟩) 2 2) := h.fact 2 (by decide) (hd 2 (by kernel_rfl))
      exact A_call (wanted_none rfl) 36 #[.const (.string { data := #[112, 97, 99, 107, 101, 116] }), .tmp 14] #[9, 59] rfl #[.string { data := #[112, 97, 99, 107, 101, 116] }, .slice (some ⟨g5, 0, none⟩) 2 2] (by simp only [List.map_toArray, List.map_cons, List.map_nil, f2] <;> rfl) (by kernel_rfl) ((refOf_calls { data := #[112, 97, 99, 107, 101, 116] } (some ⟨g5, 0, none⟩) 2 [p, q] _ (by decide) (C_arr (xs := [p, q]) ((h.below.block g5 (blk_lt HX5.out)).trans HX5.out) (by simp)) (by simp) (by simp)).mono fun e w' ⟨A, c, h1, h2, h3, h4⟩ => ⟨_, h1, h4, A, c, rfl, h2, h3⟩) rfl
    refine .cons (fun did a W h hd => ?_) ?_
    · have f0 : a.eval (.tmp 12) = (.slice (some ⟨g4, 0, none⟩) 2 2) := h.fact 0 (by decide) (hd 0 (by kernel_rfl))
      obtain ⟨A1_, c1_, f1, l1, b1⟩ : ∃ A c, a.eval (.tmp 13) = .slice A (labelL { data := #[112, 97, 99, 107, 101, 116] } [p, q]).length c ∧ (labelL { data := #[112, 97, 99, 107, 101, 116] } [p, q]).length ≤ c ∧ Kd.C (Kd.int .u8) W A (labelL { data := #[112, 97, 99, 107, 101, 116] } [p, q]).length (labelL { data := #[112, 97, 99, 107, 101, 116] } [p, q]) := h.fact 1 (by decide) (hd 1 (by kernel_rfl))
      obtain ⟨A3_, c3_, f3, l3, b3⟩ : ∃ A c, a.eval (.tmp 15) = .slice A (labelL { data := #[112, 97, 99, 107, 101, 116] } [p, q]).length c ∧ (labelL { data := #[112, 97, 99, 107, 101, 116] } [p, q]).length ≤ c ∧ Kd.C (Kd.int .u8) W A (labelL { data := #[112, 97, 99, 107, 101, 116] } [p, q]).length (labelL { data := #[112, 97, 99, 107, 101, 116] } [p, q]) := h.fact 3 (by decide) (hd 3 (by kernel_rfl))
      exact A_assign (wanted_none rfl) _ rfl _ f1 ⟨_, _, rfl, l1, b1⟩ rfl
    refine .cons (fun did a W h hd => ?_) ?_
    · have f0 : a.eval (.tmp 12) = (.slice (some ⟨g4, 0, none⟩) 2 2) := h.fact 0 (by decide) (hd 0 (by kernel_rfl))
      obtain ⟨A1_, c1_, f1, l1, b1⟩ : ∃ A c, a.eval (.tmp 13) = .slice A (labelL { data := #[112, 97, 99, 107, 101, 116] } [p, q]).length c ∧ (labelL { data := #[112, 97, 99, 107, 101, 116] } [p, q]).length ≤ c ∧ Kd.C (Kd.int .u8) W A (labelL { data := #[112, 97, 99, 107, 101, 116] } [p, q]).length (labelL { data := #[112, 97, 99, 107, 101, 116] } [p, q]) := h.fact 1 (by decide) (hd 1 (by kernel_rfl))
      have f2 : a.eval (.tmp 14) = (.slice (some ⟨g5, 0, none⟩) 2 2) := h.fact 2 (by decide) (hd 2 (by kernel_rfl))
      obtain ⟨A3_, c3_, f3, l3, b3⟩ : ∃ A c, a.eval (.tmp 15) = .slice A (labelL { data := #[112, 97, 99, 107, 101, 116] } [p, q]).length c ∧ (labelL { data := #[112, 97, 99, 107, 101, 116] } [p, q]).length ≤ c ∧ Kd.C (Kd.int .u8) W A (labelL { data := #[112, 97, 99, 107, 101, 116] } [p, q]).length (labelL { data := #[112, 97, 99, 107, 101, 116] } [p, q]) := h.fact 3 (by decide) (hd 3 (by kernel_rfl))
      obtain ⟨A4_, c4_, f4, l4, b4⟩ : ∃ A c, a.eval (.tmp 7) = .slice A (labelL { data := #[112, 97, 99, 107, 101, 116] } [p, q]).length c ∧ (labelL { data := #[112, 97, 99, 107, 101, 116] } [p, q]).length ≤ c ∧ Kd.C (Kd.int .u8) W A (labelL { data := #[112, 97, 99, 107, 101, 116] } [p, q]).length (labelL { data := #[112, 97, 99, 107, 101, 116] } [p, q]) := h.fact 4 (by decide) (hd 4 (by kernel_rfl))
      exact A_assign (wanted_none rfl) _ rfl _ f3 ⟨_, _, rfl, l3, b3⟩ rfl
    exact .nil
  case rfin11_3 =>
    intro a W h
    refine wpAny_done (by kernel_rfl) ?_ _
    have f0 : a.eval (.tmp 12) = (.slice (some ⟨g4, 0, none⟩) 2 2) := h.fact 0 (by decide) trivial
    obtain ⟨A1_, c1_, f1, l1, b1⟩ : ∃ A c, a.eval (.tmp 13) = .slice A (labelL { data := #[112, 97, 99, 107, 101, 116] } [p, q]).length c ∧ (labelL { data := #[112, 97, 99, 107, 101, 116] } [p, q]).length ≤ c ∧ Kd.C (Kd.int .u8) W A (labelL { data := #[112, 97, 99, 107, 101, 116] } [p, q]).length (labelL { data := #[112, 97, 99, 107, 101, 116] } [p, q]) := h.fact 1 (by decide) trivial
    have f2 : a.eval (.tmp 14) = (.slice (some ⟨g5, 0, none⟩) 2 2) := h.fact 2 (by decide) trivial
    obtain ⟨A3_, c3_, f3, l3, b3⟩ : ∃ A c, a.eval (.tmp 15) = .slice A (labelL { data := #[112, 97, 99, 107, 101, 116] } [p, q]).length c ∧ (labelL { data := #[112, 97, 99, 107, 101, 116] } [p, q]).length ≤ c ∧ Kd.C (Kd.int .u8) W A (labelL { data := #[112, 97, 99, 107, 101, 116] } [p, q]).length (labelL { data := #[112, 97, 99, 107, 101, 116] } [p, q]) := h.fact 3 (by decide) trivial
    obtain ⟨A4_, c4_, f4, l4, b4⟩ : ∃ A c, a.eval (.tmp 7) = .slice A (labelL { data := #[112, 97, 99, 107, 101, 116] } [p, q]).length c ∧ (labelL { data := #[112, 97, 99, 107, 101, 116] } [p, q]).length ≤ c ∧ Kd.C (Kd.int .u8) W A (labelL { data := #[112, 97, 99, 107, 101, 116] } [p, q]).length (labelL { data := #[112, 97, 99, 107, 101, 116] } [p, q]) := h.fact 4 (by decide) trivial
    obtain ⟨A5_, c5_, f5, l5, b5⟩ : ∃ A c, a.eval (.tmp 8) = .slice A (labelL { data := #[112, 97, 99, 107, 101, 116] } [p, q]).length c ∧ (labelL { data := #[112, 97, 99, 107, 101, 116] } [p, q]).length ≤ c ∧ Kd.C (Kd.int .u8) W A (labelL { data := #[112, 97, 99, 107, 101, 116] } [p, q]).length (labelL { data := #[112, 97, 99, 107, 101, 116] } [p, q]) := h.fact 5 (by decide) trivial
    have ha : a = { tmps := #[(.agg (arr .u8 (sec))), (.agg (arr .i64 [p, q])), (.agg (arr .i64 [p, q])), .pointer (some ⟨g3, 0, none⟩), .pointer (some ⟨g4, 0, none⟩), .pointer (some ⟨g5, 0, none⟩), .bool false, Value.slice A4_ (labelL { data := #[112, 97, 99, 107, 101, 116] } [p, q]).length c4_, Value.slice A5_ (labelL { data := #[112, 97, 99, 107, 101, 116] } [p, q]).length c5_, undef, .bool true, .bool false, (.slice (some ⟨g4, 0, none⟩) 2 2), Value.slice A1_ (labelL { data := #[112, 97, 99, 107, 101, 116] } [p, q]).length c1_, (.slice (some ⟨g5, 0, none⟩) 2 2), Value.slice A3_ (labelL { data := #[112, 97, 99, 107, 101, 116] } [p, q]).length c3_, undef, undef, undef, undef, undef, undef, undef, undef, undef, undef, undef, undef, undef, undef, undef, undef, undef, undef, undef, undef, undef, undef, undef, undef, undef, undef, undef, undef, undef, undef, undef, undef], defers := [] } := frame_ext h.size h.defers (.cons (h.kept 0 (by kernel_rfl)) (.cons (h.kept 1 (by kernel_rfl)) (.cons (h.kept 2 (by kernel_rfl)) (.cons (h.kept 3 (by kernel_rfl)) (.cons (h.kept 4 (by kernel_rfl)) (.cons (h.kept 5 (by kernel_rfl)) (.cons (h.kept 6 (by kernel_rfl)) (.cons f4 (.cons f5 (.cons (h.kept 9 (by kernel_rfl)) (.cons (h.kept 10 (by kernel_rfl)) (.cons (h.kept 11 (by kernel_rfl)) (.cons f0 (.cons f1 (.cons f2 (.cons f3 (.cons (h.kept 16 (by kernel_rfl)) (.cons (h.kept 17 (by kernel_rfl)) (.cons (h.kept 18 (by kernel_rfl)) (.cons (h.kept 19 (by kernel_rfl)) (.cons (h.kept 20 (by kernel_rfl)) (.cons (h.kept 21 (by kernel_rfl)) (.cons (h.kept 22 (by kernel_rfl)) (.cons (h.kept 23 (by kernel_rfl)) (.cons (h.kept 24 (by kernel_rfl)) (.cons (h.kept 25 (by kernel_rfl)) (.cons (h.kept 26 (by kernel_rfl)) (.cons (h.kept 27 (by kernel_rfl)) (.cons (h.kept 28 (by kernel_rfl)) (.cons (h.kept 29 (by kernel_rfl)) (.cons (h.kept 30 (by kernel_rfl)) (.cons (h.kept 31 (by kernel_rfl)) (.cons (h.kept 32 (by kernel_rfl)) (.cons (h.kept 33 (by kernel_rfl)) (.cons (h.kept 34 (by kernel_rfl)) (.cons (h.kept 35 (by kernel_rfl)) (.cons (h.kept 36 (by kernel_rfl)) (.cons (h.kept 37 (by kernel_rfl)) (.cons (h.kept 38 (by kernel_rfl)) (.cons (h.kept 39 (by kernel_rfl)) (.cons (h.kept 40 (by kernel_rfl)) (.cons (h.kept 41 (by kernel_rfl)) (.cons (h.kept 42 (by kernel_rfl)) (.cons (h.kept 43 (by kernel_rfl)) (.cons (h.kept 44 (by kernel_rfl)) (.cons (h.kept 45 (by kernel_rfl)) (.cons (h.kept 46 (by kernel_rfl)) (.cons (h.kept 47 (by kernel_rfl)) (.nil)))))))))))))))))))))))))))))))))))))))))))))))))
    have hbel := h.below
    subst ha
    clear h
    have HC4 := Aside0.mk b4
    have HC5 := Aside0.mk b5
    have HBE3 := Aside0.mk ((below_drew HBE.out).trans (hbel.mono HBE.out.size))
    have HY3a := Aside0.mk ((hbel.block g3 (blk_lt HX3.out)).trans HX3.out)
    have HY4a := Aside0.mk ((hbel.block g4 (blk_lt HX4.out)).trans HX4.out)
    have HY5a := Aside0.mk ((hbel.block g5 (blk_lt HX5.out)).trans HX5.out)
    have HL4c := l4
    have HL5c := l5
    clear hbel f0 f1 f2 f3 f4 f5 l1 b1 l3 b3 b4 b5 l4 l5
    go_wp2_with (go_at_call 36; refine (refOf_calls { data := #[100, 101, 118, 105, 99, 101] } (some ⟨g4, 0, none⟩) 2 [p, q] _ (by decide) (C_arr (xs := [p, q]) HY4a.out (by simp)) (by simp) (by simp)).mono ?_; rintro e w9 ⟨A9, c9, rfl, hle9, hC9, hb9⟩; have HL9c := hle9; have HC9 := Aside0.mk hC9; have HB9 := Aside0.mk hb9; clear hC9 hb9 hle9)
    have HY3 := Aside0.mk ((HB9.out.block g3 (blk_lt HY3a.out)).trans HY3a.out)
    have HY4 := Aside0.mk ((HB9.out.block g4 (blk_lt HY4a.out)).trans HY4a.out)
    have HY5 := Aside0.mk ((HB9.out.block g5 (blk_lt HY5a.out)).trans HY5a.out)
    have hc4 := Kd.C_below HC4.out HB9.out
    have hc5 := Kd.C_below HC5.out HB9.out
    clear HC4 HC5
    have HC4 := Aside0.mk hc4
    have HC5 := Aside0.mk hc5
    have HBE5 := Aside0.mk (below_step HBE3.out HB9.out)
    clear hc4 hc5 HY3a HY4a HY5a HB9 HBE3
    refine region_facts (by kernel_rfl) (getS [fun v w => ∃ A c, v = .slice A (labelL { data := #[112, 97, 99, 107, 101, 116] } [p, q]).length c ∧ (labelL { data := #[112, 97, 99, 107, 101, 116] } [p, q]).length ≤ c ∧ Kd.C (Kd.int .u8) w A (labelL { data := #[112, 97, 99, 107, 101, 116] } [p, q]).length (labelL { data := #[112, 97, 99, 107, 101, 116] } [p, q]), fun v w => ∃ A c, v = .slice A (labelL { data := #[112, 97, 99, 107, 101, 116] } [p, q]).length c ∧ (labelL { data := #[112, 97, 99, 107, 101, 116] } [p, q]).length ≤ c ∧ Kd.C (Kd.int .u8) w A (labelL { data := #[112, 97, 99, 107, 101, 116] } [p, q]).length (labelL { data := #[112, 97, 99, 107, 101, 116] } [p, q]), fun v _ => v = (.bool true), fun v _ => v = (.agg (arr .i64 [p, q])), fun v _ => v = (.agg (arr .i64 [p, q])), fun v _ => v = (.bool true), fun v _ => v = (.bool false), fun v _ => v = (.bool false), fun v w => ∃ A c, v = .slice A (labelL { data := #[112, 97, 99, 107, 101, 116] } [p, q]).length c ∧ (labelL { data := #[112, 97, 99, 107, 101, 116] } [p, q]).length ≤ c ∧ Kd.C (Kd.int .u8) w A (labelL { data := #[112, 97, 99, 107, 101, 116] } [p, q]).length (labelL { data := #[112, 97, 99, 107, 101, 116] } [p, q]), fun v w => ∃ A c, v = .slice A (labelL { data := #[100, 101, 118, 105, 99, 101] } [p, q]).length c ∧ (labelL { data := #[100, 101, 118, 105, 99, 101] } [p, q]).length ≤ c ∧ Kd.C (Kd.int .u8) w A (labelL { data := #[100, 101, 118, 105, 99, 101] } [p, q]).length (labelL { data := #[100, 101, 118, 105, 99, 101] } [p, q]), fun v _ => v = (.bool false), fun v _ => v = (.bool false)]) (fun _ => false) 12 (by kernel_rfl) (AllStab.spec (.cons (stab_C _ _) (.cons (stab_C _ _) (.cons (stab_val _) (.cons (stab_val _) (.cons (stab_val _) (.cons (stab_val _) (.cons (stab_val _) (.cons (stab_val _) (.cons (stab_C _ _) (.cons (stab_C _ _) (.cons (stab_val _) (.cons (stab_val _) .nil))))))))))))) (dst_of (by kernel_rfl)) (EachOp.of ?rop11_5) ?rfin11_5
    case rop11_5 =>
      refine .cons (fun did a W h hd => ?_) ?_
      · have k7 : a.eval (.tmp 7) = (.slice A4_ (labelL { data := #[112, 97, 99, 107, 101, 116] } [p, q]).length c4_) := h.kept 7 (by kernel_rfl)
        exact A_move (wanted_none rfl) _ rfl _ k7 ⟨_, _, rfl, HL4c, Kd.C_below HC4.out (below_of_drew h.below)⟩ rfl
      refine .cons (fun did a W h hd => ?_) ?_
      · have k8 : a.eval (.tmp 8) = (.slice A5_ (labelL { data := #[112, 97, 99, 107, 101, 116] } [p, q]).length c5_) := h.kept 8 (by kernel_rfl)
        exact A_move (wanted_none rfl) _ rfl _ k8 ⟨_, _, rfl, HL5c, Kd.C_below HC5.out (below_of_drew h.below)⟩ rfl
      refine .cons (fun did a W h hd => ?_) ?_
      · obtain ⟨A0_v, c0_v, f0, l0, b0⟩ : ∃ A c, a.eval (.tmp 18) = .slice A (labelL { data := #[112, 97, 99, 107, 101, 116] } [p, q]).length c ∧ (labelL { data := #[112, 97, 99, 107, 101, 116] } [p, q]).length ≤ c ∧ Kd.C (Kd.int .u8) W A (labelL { data := #[112, 97, 99, 107, 101, 116] } [p, q]).length (labelL { data := #[112, 97, 99, 107, 101, 116] } [p, q]) := h.fact 0 (by decide) (hd 0 (by kernel_rfl))
        obtain ⟨A1_v, c1_v, f1, l1, b1⟩ : ∃ A c, a.eval (.tmp 19) = .slice A (labelL { data := #[112, 97, 99, 107, 101, 116] } [p, q]).length c ∧ (labelL { data := #[112, 97, 99, 107, 101, 116] } [p, q]).length ≤ c ∧ Kd.C (Kd.int .u8) W A (labelL { data := #[112, 97, 99, 107, 101, 116] } [p, q]).length (labelL { data := #[112, 97, 99, 107, 101, 116] } [p, q]) := h.fact 1 (by decide) (hd 1 (by kernel_rfl))
        exact A_call (wanted_none rfl) 18 #[.tmp 18, .tmp 19] #[24, 24] rfl #[.slice A0_v (labelL { data := #[112, 97, 99, 107, 101, 116] } [p, q]).length c0_v, .slice A1_v (labelL { data := #[112, 97, 99, 107, 101, 116] } [p, q]).length c1_v] (by simp only [List.map_toArray, List.map_cons, List.map_nil, f0, f1] <;> rfl) (by kernel_rfl) ((sameB_calls A0_v c0_v (labelL { data := #[112, 97, 99, 107, 101, 116] } [p, q]) A1_v c1_v (labelL { data := #[112, 97, 99, 107, 101, 116] } [p, q]) true _ b0 l0 b1 l1 (by rw [labelL_length]; exact Nat.le_of_ble_eq_true rfl) (decide_eq_true rfl)).mono fun e w' hh => ⟨_, hh.1, hh.2, rfl⟩) rfl
      refine .cons (fun did a W h hd => ?_) ?_
      · have k4 : a.eval (.tmp 4) = .pointer (some ⟨g4, 0, none⟩) := h.kept 4 (by kernel_rfl)
        exact A_load (wanted_none rfl) 60 (.tmp 4) rfl g4 k4 60 (arr .i64 [p, q]) _ ((h.below.block g4 (blk_lt HY4.out)).trans HY4.out) Try.underlying60 rfl (by kernel_rfl) rfl rfl
      refine .cons (fun did a W h hd => ?_) ?_
      · have k5 : a.eval (.tmp 5) = .pointer (some ⟨g5, 0, none⟩) := h.kept 5 (by kernel_rfl)
        exact A_load (wanted_none rfl) 60 (.tmp 5) rfl g5 k5 60 (arr .i64 [p, q]) _ ((h.below.block g5 (blk_lt HY5.out)).trans HY5.out) Try.underlying60 rfl (by kernel_rfl) rfl rfl
      refine .cons (fun did a W h hd => ?_) ?_
      · have f3 : a.eval (.tmp 21) = (.agg (arr .i64 [p, q])) := h.fact 3 (by decide) (hd 3 (by kernel_rfl))
        have f4 : a.eval (.tmp 22) = (.agg (arr .i64 [p, q])) := h.fact 4 (by decide) (hd 4 (by kernel_rfl))
        exact A_eqarr (wanted_none rfl) 60 3 2 .i64 (.tmp 21) (.tmp 22) 60 rfl Try.underlying60 Try.underlying3 (by kernel_rfl) (by kernel_rfl) [p, q] [p, q] f3 f4 rfl rfl true (decide_eq_true rfl) rfl rfl
      refine .cons (fun did a W h hd => ?_) ?_
      · have f2 : a.eval (.tmp 20) = (.bool true) := h.fact 2 (by decide) (hd 2 (by kernel_rfl))
        have f5 : a.eval (.tmp 23) = (.bool true) := h.fact 5 (by decide) (hd 5 (by kernel_rfl))
        exact A_bin (wanted_none rfl) _ _ _ _ _ rfl _ _ f2 f5 ((.bool false)) (by simp [eqGuard, binOp, Op.equal, Op.maxDepth, go_sem, Try.underlying4]) rfl rfl
      refine .cons (fun did a W h hd => ?_) ?_
      · have f2 : a.eval (.tmp 20) = (.bool true) := h.fact 2 (by decide) (hd 2 (by kernel_rfl))
        have f6 : a.eval (.tmp 24) = (.bool false) := h.fact 6 (by decide) (hd 6 (by kernel_rfl))
        exact A_move (wanted_none rfl) _ rfl ((.bool false)) f6 rfl rfl
      refine .cons (fun did a W h hd => ?_) ?_
      · have k7 : a.eval (.tmp 7) = (.slice A4_ (labelL { data := #[112, 97, 99, 107, 101, 116] } [p, q]).length c4_) := h.kept 7 (by kernel_rfl)
        have f7 : a.eval (.tmp 25) = (.bool false) := h.fact 7 (by decide) (hd 7 (by kernel_rfl))
        exact A_move (wanted_yes (j := 7) rfl rfl rfl f7) _ rfl _ k7 ⟨_, _, rfl, HL4c, Kd.C_below HC4.out (below_of_drew h.below)⟩ rfl
      refine .cons (fun did a W h hd => ?_) ?_
      · have k9 : a.eval (.tmp 9) = (.slice A9 (labelL { data := #[100, 101, 118, 105, 99, 101] } [p, q]).length c9) := h.kept 9 (by kernel_rfl)
        have f7 : a.eval (.tmp 25) = (.bool false) := h.fact 7 (by decide) (hd 7 (by kernel_rfl))
        exact A_move (wanted_yes (j := 7) rfl rfl rfl f7) _ rfl _ k9 ⟨_, _, rfl, HL9c, Kd.C_below HC9.out (below_of_drew h.below)⟩ rfl
      refine .cons (fun did a W h hd => ?_) ?_
      · have f7 : a.eval (.tmp 25) = (.bool false) := h.fact 7 (by decide) (hd 7 (by kernel_rfl))
        obtain ⟨A8_v, c8_v, f8, l8, b8⟩ : ∃ A c, a.eval (.tmp 26) = .slice A (labelL { data := #[112, 97, 99, 107, 101, 116] } [p, q]).length c ∧ (labelL { data := #[112, 97, 99, 107, 101, 116] } [p, q]).length ≤ c ∧ Kd.C (Kd.int .u8) W A (labelL { data := #[112, 97, 99, 107, 101, 116] } [p, q]).length (labelL { data := #[112, 97, 99, 107, 101, 116] } [p, q]) := h.fact 8 (by decide) (hd 8 (by kernel_rfl))
        obtain ⟨A9_v, c9_v, f9, l9, b9⟩ : ∃ A c, a.eval (.tmp 27) = .slice A (labelL { data := #[100, 101, 118, 105, 99, 101] } [p, q]).length c ∧ (labelL { data := #[100, 101, 118, 105, 99, 101] } [p, q]).length ≤ c ∧ Kd.C (Kd.int .u8) W A (labelL { data := #[100, 101, 118, 105, 99, 101] } [p, q]).length (labelL { data := #[100, 101, 118, 105, 99, 101] } [p, q]) := h.fact 9 (by decide) (hd 9 (by kernel_rfl))
        exact A_call (wanted_yes (j := 7) rfl rfl rfl f7) 18 #[.tmp 26, .tmp 27] #[24, 24] rfl #[.slice A8_v (labelL { data := #[112, 97, 99, 107, 101, 116] } [p, q]).length c8_v, .slice A9_v (labelL { data := #[100, 101, 118, 105, 99, 101] } [p, q]).length c9_v] (by simp only [List.map_toArray, List.map_cons, List.map_nil, f8, f9] <;> rfl) (by kernel_rfl) ((sameB_calls A8_v c8_v (labelL { data := #[112, 97, 99, 107, 101, 116] } [p, q]) A9_v c9_v (labelL { data := #[100, 101, 118, 105, 99, 101] } [p, q]) false _ b8 l8 b9 l9 (by rw [labelL_length]; exact Nat.le_of_ble_eq_true rfl) (decide_eq_false (label_pd _ _))).mono fun e w' hh => ⟨_, hh.1, hh.2, rfl⟩) rfl
      refine .cons (fun did a W h hd => ?_) ?_
      · have f7 : a.eval (.tmp 25) = (.bool false) := h.fact 7 (by decide) (hd 7 (by kernel_rfl))
        have f10 : a.eval (.tmp 28) = (.bool false) := h.fact 10 (by decide) (hd 10 (by kernel_rfl))
        exact A_pick (wanted_none rfl) _ _ _ rfl _ f7 ((.bool false)) (by rw [if_neg (by decide)]; exact f10) rfl rfl
      exact .nil
    case rfin11_5 =>
      intro a W h
      refine wpAny_done (by kernel_rfl) ?_ _
      obtain ⟨A0_v, c0_v, f0, l0, b0⟩ : ∃ A c, a.eval (.tmp 18) = .slice A (labelL { data := #[112, 97, 99, 107, 101, 116] } [p, q]).length c ∧ (labelL { data := #[112, 97, 99, 107, 101, 116] } [p, q]).length ≤ c ∧ Kd.C (Kd.int .u8) W A (labelL { data := #[112, 97, 99, 107, 101, 116] } [p, q]).length (labelL { data := #[112, 97, 99, 107, 101, 116] } [p, q]) := h.fact 0 (by decide) trivial
      obtain ⟨A1_v, c1_v, f1, l1, b1⟩ : ∃ A c, a.eval (.tmp 19) = .slice A (labelL { data := #[112, 97, 99, 107, 101, 116] } [p, q]).length c ∧ (labelL { data := #[112, 97, 99, 107, 101, 116] } [p, q]).length ≤ c ∧ Kd.C (Kd.int .u8) W A (labelL { data := #[112, 97, 99, 107, 101, 116] } [p, q]).length (labelL { data := #[112, 97, 99, 107, 101, 116] } [p, q]) := h.fact 1 (by decide) trivial
      have f2 : a.eval (.tmp 20) = (.bool true) := h.fact 2 (by decide) trivial
      have f3 : a.eval (.tmp 21) = (.agg (arr .i64 [p, q])) := h.fact 3 (by decide) trivial
      have f4 : a.eval (.tmp 22) = (.agg (arr .i64 [p, q])) := h.fact 4 (by decide) trivial
      have f5 : a.eval (.tmp 23) = (.bool true) := h.fact 5 (by decide) trivial
      have f6 : a.eval (.tmp 24) = (.bool false) := h.fact 6 (by decide) trivial
      have f7 : a.eval (.tmp 25) = (.bool false) := h.fact 7 (by decide) trivial
      obtain ⟨A8_v, c8_v, f8, l8, b8⟩ : ∃ A c, a.eval (.tmp 26) = .slice A (labelL { data := #[112, 97, 99, 107, 101, 116] } [p, q]).length c ∧ (labelL { data := #[112, 97, 99, 107, 101, 116] } [p, q]).length ≤ c ∧ Kd.C (Kd.int .u8) W A (labelL { data := #[112, 97, 99, 107, 101, 116] } [p, q]).length (labelL { data := #[112, 97, 99, 107, 101, 116] } [p, q]) := h.fact 8 (by decide) trivial
      obtain ⟨A9_v, c9_v, f9, l9, b9⟩ : ∃ A c, a.eval (.tmp 27) = .slice A (labelL { data := #[100, 101, 118, 105, 99, 101] } [p, q]).length c ∧ (labelL { data := #[100, 101, 118, 105, 99, 101] } [p, q]).length ≤ c ∧ Kd.C (Kd.int .u8) W A (labelL { data := #[100, 101, 118, 105, 99, 101] } [p, q]).length (labelL { data := #[100, 101, 118, 105, 99, 101] } [p, q]) := h.fact 9 (by decide) trivial
      have f10 : a.eval (.tmp 28) = (.bool false) := h.fact 10 (by decide) trivial
      have f11 : a.eval (.tmp 29) = (.bool false) := h.fact 11 (by decide) trivial
      have ha : a = { tmps := #[(.agg (arr .u8 (sec))), (.agg (arr .i64 [p, q])), (.agg (arr .i64 [p, q])), .pointer (some ⟨g3, 0, none⟩), .pointer (some ⟨g4, 0, none⟩), .pointer (some ⟨g5, 0, none⟩), .bool false, (.slice A4_ (labelL { data := #[112, 97, 99, 107, 101, 116] } [p, q]).length c4_), (.slice A5_ (labelL { data := #[112, 97, 99, 107, 101, 116] } [p, q]).length c5_), (.slice A9 (labelL { data := #[100, 101, 118, 105, 99, 101] } [p, q]).length c9), .bool true, .bool false, .slice (some ⟨g4, 0, none⟩) 2 2, (.slice A1_ (labelL { data := #[112, 97, 99, 107, 101, 116] } [p, q]).length c1_), .slice (some ⟨g5, 0, none⟩) 2 2, (.slice A3_ (labelL { data := #[112, 97, 99, 107, 101, 116] } [p, q]).length c3_), .slice (some ⟨g4, 0, none⟩) 2 2, (.slice A9 (labelL { data := #[100, 101, 118, 105, 99, 101] } [p, q]).length c9), Value.slice A0_v (labelL { data := #[112, 97, 99, 107, 101, 116] } [p, q]).length c0_v, Value.slice A1_v (labelL { data := #[112, 97, 99, 107, 101, 116] } [p, q]).length c1_v, (.bool true), (.agg (arr .i64 [p, q])), (.agg (arr .i64 [p, q])), (.bool true), (.bool false), (.bool false), Value.slice A8_v (labelL { data := #[112, 97, 99, 107, 101, 116] } [p, q]).length c8_v, Value.slice A9_v (labelL { data := #[100, 101, 118, 105, 99, 101] } [p, q]).length c9_v, (.bool false), (.bool false), undef, undef, undef, undef, undef, undef, undef, undef, undef, undef, undef, undef, undef, undef, undef, undef, undef, undef], defers := [] } := frame_ext h.size h.defers (.cons (h.kept 0 (by kernel_rfl)) (.cons (h.kept 1 (by kernel_rfl)) (.cons (h.kept 2 (by kernel_rfl)) (.cons (h.kept 3 (by kernel_rfl)) (.cons (h.kept 4 (by kernel_rfl)) (.cons (h.kept 5 (by kernel_rfl)) (.cons (h.kept 6 (by kernel_rfl)) (.cons (h.kept 7 (by kernel_rfl)) (.cons (h.kept 8 (by kernel_rfl)) (.cons (h.kept 9 (by kernel_rfl)) (.cons (h.kept 10 (by kernel_rfl)) (.cons (h.kept 11 (by kernel_rfl)) (.cons (h.kept 12 (by kernel_rfl)) (.cons (h.kept 13 (by kernel_rfl)) (.cons (h.kept 14 (by kernel_rfl)) (.cons (h.kept 15 (by kernel_rfl)) (.cons (h.kept 16 (by kernel_rfl)) (.cons (h.kept 17 (by kernel_rfl)) (.cons f0 (.cons f1 (.cons f2 (.cons f3 (.cons f4 (.cons f5 (.cons f6 (.cons f7 (.cons f8 (.cons f9 (.cons f10 (.cons f11 (.cons (h.kept 30 (by kernel_rfl)) (.cons (h.kept 31 (by kernel_rfl)) (.cons (h.kept 32 (by kernel_rfl)) (.cons (h.kept 33 (by kernel_rfl)) (.cons (h.kept 34 (by kernel_rfl)) (.cons (h.kept 35 (by kernel_rfl)) (.cons (h.kept 36 (by kernel_rfl)) (.cons (h.kept 37 (by kernel_rfl)) (.cons (h.kept 38 (by kernel_rfl)) (.cons (h.kept 39 (by kernel_rfl)) (.cons (h.kept 40 (by kernel_rfl)) (.cons (h.kept 41 (by kernel_rfl)) (.cons (h.kept 42 (by kernel_rfl)) (.cons (h.kept 43 (by kernel_rfl)) (.cons (h.kept 44 (by kernel_rfl)) (.cons (h.kept 45 (by kernel_rfl)) (.cons (h.kept 46 (by kernel_rfl)) (.cons (h.kept 47 (by kernel_rfl)) (.nil)))))))))))))))))))))))))))))))))))))))))))))))))
      have hbel := h.below
      subst ha
      clear h
      have HBE7 := Aside0.mk ((below_drew HBE5.out).trans (hbel.mono HBE5.out.size))
      have HZ3 := Aside0.mk ((hbel.block g3 (blk_lt HY3.out)).trans HY3.out)
      have HZ4 := Aside0.mk ((hbel.block g4 (blk_lt HY4.out)).trans HY4.out)
      have HZ5 := Aside0.mk ((hbel.block g5 (blk_lt HY5.out)).trans HY5.out)
      clear hbel f0 f1 f2 f3 f4 f5 f6 f7 f8 f9 f10 f11 l0 l1 l8 l9 b0 b1 b8 b9
      go_wp2
      refine region_facts (by kernel_rfl) (getS [fun v _ => v = (.agg (arr .i64 [p, q])), fun v _ => v = (.agg (arr .i64 [p, q])), fun v _ => v = (.bool false), fun v _ => v = (.bool false), fun v _ => v = (.agg (arr .u8 (sec))), fun v _ => v = (.pointer (some ⟨g4, 0, none⟩)), fun v _ => v = (.int .i64 p), fun v _ => v = (.pointer (some ⟨g4, 1, none⟩)), fun v _ => v = (.int .i64 q), fun v _ => v = (.agg (arr .u8 (keyL sec { data := #[112, 97, 99, 107, 101, 116] } [p, q]))), fun v _ => v = (.agg (arr .u8 (sec))), fun v _ => v = (.pointer (some ⟨g5, 0, none⟩)), fun v _ => v = (.int .i64 p), fun v _ => v = (.pointer (some ⟨g5, 1, none⟩)), fun v _ => v = (.int .i64 q), fun v _ => v = (.agg (arr .u8 (keyL sec { data := #[112, 97, 99, 107, 101, 116] } [p, q]))), fun v _ => v = (.bool true), fun v _ => v = (.bool true), fun v _ => v = (.bool true)]) (fun _ => false) 19 (by kernel_rfl) (AllStab.spec (.cons (stab_val _) (.cons (stab_val _) (.cons (stab_val _) (.cons (stab_val _) (.cons (stab_val _) (.cons (stab_val _) (.cons (stab_val _) (.cons (stab_val _) (.cons (stab_val _) (.cons (stab_val _) (.cons (stab_val _) (.cons (stab_val _) (.cons (stab_val _) (.cons (stab_val _) (.cons (stab_val _) (.cons (stab_val _) (.cons (stab_val _) (.cons (stab_val _) (.cons (stab_val _) .nil)))))))))))))))))))) (dst_of (by kernel_rfl)) (EachOp.of ?rop11_7) ?rfin11_7
      case rop11_7 =>
        refine .cons (fun did a W h hd => ?_) ?_
        · have k4 : a.eval (.tmp 4) = .pointer (some ⟨g4, 0, none⟩) := h.kept 4 (by kernel_rfl)
          exact A_load (wanted_none rfl) 60 (.tmp 4) rfl g4 k4 60 (arr .i64 [p, q]) _ ((h.below.block g4 (blk_lt HZ4.out)).trans HZ4.out) Try.underlying60 rfl (by kernel_rfl) rfl rfl
        refine .cons (fun did a W h hd => ?_) ?_
        · have k5 : a.eval (.tmp 5) = .pointer (some ⟨g5, 0, none⟩) := h.kept 5 (by kernel_rfl)
          exact A_load (wanted_none rfl) 60 (.tmp 5) rfl g5 k5 60 (arr .i64 [p, q]) _ ((h.below.block g5 (blk_lt HZ5.out)).trans HZ5.out) Try.underlying60 rfl (by kernel_rfl) rfl rfl
        refine .cons (fun did a W h hd => ?_) ?_
        · have f0 : a.eval (.tmp 30) = (.agg (arr .i64 [p, q])) := h.fact 0 (by decide) (hd 0 (by kernel_rfl))
          have f1 : a.eval (.tmp 31) = (.agg (arr .i64 [p, q])) := h.fact 1 (by decide) (hd 1 (by kernel_rfl))
          exact A_nearr (wanted_none rfl) 60 3 2 .i64 (.tmp 30) (.tmp 31) 60 rfl Try.underlying60 Try.underlying3 (by kernel_rfl) (by kernel_rfl) [p, q] [p, q] f0 f1 rfl rfl true (decide_eq_true rfl) rfl rfl
        refine .cons (fun did a W h hd => ?_) ?_
        · have f2 : a.eval (.tmp 32) = (.bool false) := h.fact 2 (by decide) (hd 2 (by kernel_rfl))
          exact A_move (wanted_none rfl) _ rfl ((.bool false)) f2 rfl rfl
        refine .cons (fun did a W h hd => ?_) ?_
        · have k3 : a.eval (.tmp 3) = .pointer (some ⟨g3, 0, none⟩) := h.kept 3 (by kernel_rfl)
          have f3 : a.eval (.tmp 33) = (.bool false) := h.fact 3 (by decide) (hd 3 (by kernel_rfl))
          exact A_load (wanted_yes (j := 3) rfl rfl rfl f3) 38 (.tmp 3) rfl g3 k3 38 (arr .u8 sec) _ ((h.below.block g3 (blk_lt HZ3.out)).trans HZ3.out) Try.underlying38 rfl (by rw [arr_size, HSL.out]; kernel_rfl) rfl rfl
        refine .cons (fun did a W h hd => ?_) ?_
        · have k4 : a.eval (.tmp 4) = .pointer (some ⟨g4, 0, none⟩) := h.kept 4 (by kernel_rfl)
          have f3 : a.eval (.tmp 33) = (.bool false) := h.fact 3 (by decide) (hd 3 (by kernel_rfl))
          exact A_ixarr (wanted_yes (j := 3) rfl rfl rfl f3) 60 3 2 (.tmp 4) (.const (.int .i64 0)) rfl Try.underlying60 (by kernel_rfl) g4 k4 0 rfl (by decide) rfl rfl
        refine .cons (fun did a W h hd => ?_) ?_
        · have f3 : a.eval (.tmp 33) = (.bool false) := h.fact 3 (by decide) (hd 3 (by kernel_rfl))
          have f5 : a.eval (.tmp 35) = (.pointer (some ⟨g4, 0, none⟩)) := h.fact 5 (by decide) (hd 5 (by kernel_rfl))
          exact A_loadcell (wanted_yes (j := 3) rfl rfl rfl f3) 3 _ rfl .i64 Try.underlying3 ⟨g4, 0, none⟩ f5 _ ((blk_cell ((h.below.block g4 (blk_lt HZ4.out)).trans HZ4.out) 0).trans rfl) rfl rfl
        refine .cons (fun did a W h hd => ?_) ?_
        · have k4 : a.eval (.tmp 4) = .pointer (some ⟨g4, 0, none⟩) := h.kept 4 (by kernel_rfl)
          have f3 : a.eval (.tmp 33) = (.bool false) := h.fact 3 (by decide) (hd 3 (by kernel_rfl))
          exact A_ixarr (wanted_yes (j := 3) rfl rfl rfl f3) 60 3 2 (.tmp 4) (.const (.int .i64 1)) rfl Try.underlying60 (by kernel_rfl) g4 k4 1 rfl (by decide) rfl rfl
        refine .cons (fun did a W h hd => ?_) ?_
        · have f3 : a.eval (.tmp 33) = (.bool false) := h.fact 3 (by decide) (hd 3 (by kernel_rfl))
          have f7 : a.eval (.tmp 37) = (.pointer (some ⟨g4, 1, none⟩)) := h.fact 7 (by decide) (hd 7 (by kernel_rfl))
          exact A_loadcell (wanted_yes (j := 3) rfl rfl rfl f3) 3 _ rfl .i64 Try.underlying3 ⟨g4, 1, none⟩ f7 _ ((blk_cell ((h.below.block g4 (blk_lt HZ4.out)).trans HZ4.out) 1).trans rfl) rfl rfl
        refine .cons (fun did a W h hd => ?_) ?_
        · have f3 : a.eval (.tmp 33) = (.bool false) := h.fact 3 (by decide) (hd 3 (by kernel_rfl))
          have f4 : a.eval (.tmp 34) = (.agg (arr .u8 (sec))) := h.fact 4 (by decide) (hd 4 (by kernel_rfl))
          have f6 : a.eval (.tmp 36) = (.int .i64 p) := h.fact 6 (by decide) (hd 6 (by kernel_rfl))
          have f8 : a.eval (.tmp 38) = (.int .i64 q) := h.fact 8 (by decide) (hd 8 (by kernel_rfl))
          exact A_call (wanted_yes (j := 3) rfl rfl rfl f3) 37 #[.tmp 34, .tmp 36, .tmp 38] #[38, 3, 3] rfl #[(.agg (arr .u8 (sec))), .int .i64 p, .int .i64 q] (by simp only [List.map_toArray, List.map_cons, List.map_nil, f4, f6, f8] <;> rfl) (by kernel_rfl) ((Packet_calls sec p q _ HSL.out HBS.out).mono fun e w' hh => ⟨_, hh.1, hh.2, rfl⟩) rfl
        refine .cons (fun did a W h hd => ?_) ?_
        · have k3 : a.eval (.tmp 3) = .pointer (some ⟨g3, 0, none⟩) := h.kept 3 (by kernel_rfl)
          have f3 : a.eval (.tmp 33) = (.bool false) := h.fact 3 (by decide) (hd 3 (by kernel_rfl))
          exact A_load (wanted_yes (j := 3) rfl rfl rfl f3) 38 (.tmp 3) rfl g3 k3 38 (arr .u8 sec) _ ((h.below.block g3 (blk_lt HZ3.out)).trans HZ3.out) Try.underlying38 rfl (by rw [arr_size, HSL.out]; kernel_rfl) rfl rfl
        refine .cons (fun did a W h hd => ?_) ?_
        · have k5 : a.eval (.tmp 5) = .pointer (some ⟨g5, 0, none⟩) := h.kept 5 (by kernel_rfl)
          have f3 : a.eval (.tmp 33) = (.bool false) := h.fact 3 (by decide) (hd 3 (by kernel_rfl))
          exact A_ixarr (wanted_yes (j := 3) rfl rfl rfl f3) 60 3 2 (.tmp 5) (.const (.int .i64 0)) rfl Try.underlying60 (by kernel_rfl) g5 k5 0 rfl (by decide) rfl rfl
        refine .cons (fun did a W h hd => ?_) ?_
        · have f3 : a.eval (.tmp 33) = (.bool false) := h.fact 3 (by decide) (hd 3 (by kernel_rfl))
          have f11 : a.eval (.tmp 41) = (.pointer (some ⟨g5, 0, none⟩)) := h.fact 11 (by decide) (hd 11 (by kernel_rfl))
          exact A_loadcell (wanted_yes (j := 3) rfl rfl rfl f3) 3 _ rfl .i64 Try.underlying3 ⟨g5, 0, none⟩ f11 _ ((blk_cell ((h.below.block g5 (blk_lt HZ5.out)).trans HZ5.out) 0).trans rfl) rfl rfl
        refine .cons (fun did a W h hd => ?_) ?_
        · have k5 : a.eval (.tmp 5) = .pointer (some ⟨g5, 0, none⟩) := h.kept 5 (by kernel_rfl)
          have f3 : a.eval (.tmp 33) = (.bool false) := h.fact 3 (by decide) (hd 3 (by kernel_rfl))
          exact A_ixarr (wanted_yes (j := 3) rfl rfl rfl f3) 60 3 2 (.tmp 5) (.const (.int .i64 1)) rfl Try.underlying60 (by kernel_rfl) g5 k5 1 rfl (by decide) rfl rfl
        refine .cons (fun did a W h hd => ?_) ?_
        · have f3 : a.eval (.tmp 33) = (.bool false) := h.fact 3 (by decide) (hd 3 (by kernel_rfl))
          have f13 : a.eval (.tmp 43) = (.pointer (some ⟨g5, 1, none⟩)) := h.fact 13 (by decide) (hd 13 (by kernel_rfl))
          exact A_loadcell (wanted_yes (j := 3) rfl rfl rfl f3) 3 _ rfl .i64 Try.underlying3 ⟨g5, 1, none⟩ f13 _ ((blk_cell ((h.below.block g5 (blk_lt HZ5.out)).trans HZ5.out) 1).trans rfl) rfl rfl
        refine .cons (fun did a W h hd => ?_) ?_
        · have f3 : a.eval (.tmp 33) = (.bool false) := h.fact 3 (by decide) (hd 3 (by kernel_rfl))
          have f9 : a.eval (.tmp 39) = (.agg (arr .u8 (keyL sec { data := #[112, 97, 99, 107, 101, 116] } [p, q]))) := h.fact 9 (by decide) (hd 9 (by kernel_rfl))
          have f10 : a.eval (.tmp 40) = (.agg (arr .u8 (sec))) := h.fact 10 (by decide) (hd 10 (by kernel_rfl))
          have f12 : a.eval (.tmp 42) = (.int .i64 p) := h.fact 12 (by decide) (hd 12 (by kernel_rfl))
          have f14 : a.eval (.tmp 44) = (.int .i64 q) := h.fact 14 (by decide) (hd 14 (by kernel_rfl))
          exact A_call (wanted_yes (j := 3) rfl rfl rfl f3) 37 #[.tmp 40, .tmp 42, .tmp 44] #[38, 3, 3] rfl #[(.agg (arr .u8 (sec))), .int .i64 p, .int .i64 q] (by simp only [List.map_toArray, List.map_cons, List.map_nil, f10, f12, f14] <;> rfl) (by kernel_rfl) ((Packet_calls sec p q _ HSL.out HBS.out).mono fun e w' hh => ⟨_, hh.1, hh.2, rfl⟩) rfl
        refine .cons (fun did a W h hd => ?_) ?_
        · have f3 : a.eval (.tmp 33) = (.bool false) := h.fact 3 (by decide) (hd 3 (by kernel_rfl))
          have f9 : a.eval (.tmp 39) = (.agg (arr .u8 (keyL sec { data := #[112, 97, 99, 107, 101, 116] } [p, q]))) := h.fact 9 (by decide) (hd 9 (by kernel_rfl))
          have f15 : a.eval (.tmp 45) = (.agg (arr .u8 (keyL sec { data := #[112, 97, 99, 107, 101, 116] } [p, q]))) := h.fact 15 (by decide) (hd 15 (by kernel_rfl))
          exact A_eqarr (wanted_yes (j := 3) rfl rfl rfl f3) 38 5 32 .u8 (.tmp 39) (.tmp 45) 38 rfl Try.underlying38 Try.underlying5 (by kernel_rfl) (by kernel_rfl) (keyL sec { data := #[112, 97, 99, 107, 101, 116] } [p, q]) (keyL sec { data := #[112, 97, 99, 107, 101, 116] } [p, q]) f9 f15 (keyL_length _ _ _) (keyL_length _ _ _) true (decide_eq_true rfl) rfl rfl
        refine .cons (fun did a W h hd => ?_) ?_
        · have f3 : a.eval (.tmp 33) = (.bool false) := h.fact 3 (by decide) (hd 3 (by kernel_rfl))
          have f16 : a.eval (.tmp 46) = (.bool true) := h.fact 16 (by decide) (hd 16 (by kernel_rfl))
          exact A_pick (wanted_none rfl) _ _ _ rfl _ f3 ((.bool true)) (by rw [if_neg (by decide)]; exact f16) rfl rfl
        refine .cons (fun did a W h hd => ?_) ?_
        · have f0 : a.eval (.tmp 30) = (.agg (arr .i64 [p, q])) := h.fact 0 (by decide) (hd 0 (by kernel_rfl))
          have f1 : a.eval (.tmp 31) = (.agg (arr .i64 [p, q])) := h.fact 1 (by decide) (hd 1 (by kernel_rfl))
          have f2 : a.eval (.tmp 32) = (.bool false) := h.fact 2 (by decide) (hd 2 (by kernel_rfl))
          have f3 : a.eval (.tmp 33) = (.bool false) := h.fact 3 (by decide) (hd 3 (by kernel_rfl))
          have f4 : a.eval (.tmp 34) = (.agg (arr .u8 (sec))) := h.fact 4 (by decide) (hd 4 (by kernel_rfl))
          have f5 : a.eval (.tmp 35) = (.pointer (some ⟨g4, 0, none⟩)) := h.fact 5 (by decide) (hd 5 (by kernel_rfl))
          have f6 : a.eval (.tmp 36) = (.int .i64 p) := h.fact 6 (by decide) (hd 6 (by kernel_rfl))
          have f7 : a.eval (.tmp 37) = (.pointer (some ⟨g4, 1, none⟩)) := h.fact 7 (by decide) (hd 7 (by kernel_rfl))
          have f8 : a.eval (.tmp 38) = (.int .i64 q) := h.fact 8 (by decide) (hd 8 (by kernel_rfl))
          have f9 : a.eval (.tmp 39) = (.agg (arr .u8 (keyL sec { data := #[112, 97, 99, 107, 101, 116] } [p, q]))) := h.fact 9 (by decide) (hd 9 (by kernel_rfl))
          have f10 : a.eval (.tmp 40) = (.agg (arr .u8 (sec))) := h.fact 10 (by decide) (hd 10 (by kernel_rfl))
          have f11 : a.eval (.tmp 41) = (.pointer (some ⟨g5, 0, none⟩)) := h.fact 11 (by decide) (hd 11 (by kernel_rfl))
          have f12 : a.eval (.tmp 42) = (.int .i64 p) := h.fact 12 (by decide) (hd 12 (by kernel_rfl))
          have f13 : a.eval (.tmp 43) = (.pointer (some ⟨g5, 1, none⟩)) := h.fact 13 (by decide) (hd 13 (by kernel_rfl))
          have f14 : a.eval (.tmp 44) = (.int .i64 q) := h.fact 14 (by decide) (hd 14 (by kernel_rfl))
          have f15 : a.eval (.tmp 45) = (.agg (arr .u8 (keyL sec { data := #[112, 97, 99, 107, 101, 116] } [p, q]))) := h.fact 15 (by decide) (hd 15 (by kernel_rfl))
          have f16 : a.eval (.tmp 46) = (.bool true) := h.fact 16 (by decide) (hd 16 (by kernel_rfl))
          have f17 : a.eval (.tmp 47) = (.bool true) := h.fact 17 (by decide) (hd 17 (by kernel_rfl))
          exact A_assign (wanted_none rfl) _ rfl ((.bool true)) f17 rfl rfl
        exact .nil
      case rfin11_7 =>
        intro a W h
        refine wpAny_done (by kernel_rfl) ?_ _
        have f0 : a.eval (.tmp 30) = (.agg (arr .i64 [p, q])) := h.fact 0 (by decide) trivial
        have f1 : a.eval (.tmp 31) = (.agg (arr .i64 [p, q])) := h.fact 1 (by decide) trivial
        have f2 : a.eval (.tmp 32) = (.bool false) := h.fact 2 (by decide) trivial
        have f3 : a.eval (.tmp 33) = (.bool false) := h.fact 3 (by decide) trivial
        have f4 : a.eval (.tmp 34) = (.agg (arr .u8 (sec))) := h.fact 4 (by decide) trivial
        have f5 : a.eval (.tmp 35) = (.pointer (some ⟨g4, 0, none⟩)) := h.fact 5 (by decide) trivial
        have f6 : a.eval (.tmp 36) = (.int .i64 p) := h.fact 6 (by decide) trivial
        have f7 : a.eval (.tmp 37) = (.pointer (some ⟨g4, 1, none⟩)) := h.fact 7 (by decide) trivial
        have f8 : a.eval (.tmp 38) = (.int .i64 q) := h.fact 8 (by decide) trivial
        have f9 : a.eval (.tmp 39) = (.agg (arr .u8 (keyL sec { data := #[112, 97, 99, 107, 101, 116] } [p, q]))) := h.fact 9 (by decide) trivial
        have f10 : a.eval (.tmp 40) = (.agg (arr .u8 (sec))) := h.fact 10 (by decide) trivial
        have f11 : a.eval (.tmp 41) = (.pointer (some ⟨g5, 0, none⟩)) := h.fact 11 (by decide) trivial
        have f12 : a.eval (.tmp 42) = (.int .i64 p) := h.fact 12 (by decide) trivial
        have f13 : a.eval (.tmp 43) = (.pointer (some ⟨g5, 1, none⟩)) := h.fact 13 (by decide) trivial
        have f14 : a.eval (.tmp 44) = (.int .i64 q) := h.fact 14 (by decide) trivial
        have f15 : a.eval (.tmp 45) = (.agg (arr .u8 (keyL sec { data := #[112, 97, 99, 107, 101, 116] } [p, q]))) := h.fact 15 (by decide) trivial
        have f16 : a.eval (.tmp 46) = (.bool true) := h.fact 16 (by decide) trivial
        have f17 : a.eval (.tmp 47) = (.bool true) := h.fact 17 (by decide) trivial
        have f18 : a.eval (.tmp 6) = (.bool true) := h.fact 18 (by decide) trivial
        have ha : a = { tmps := #[(.agg (arr .u8 (sec))), (.agg (arr .i64 [p, q])), (.agg (arr .i64 [p, q])), .pointer (some ⟨g3, 0, none⟩), .pointer (some ⟨g4, 0, none⟩), .pointer (some ⟨g5, 0, none⟩), (.bool true), (.slice A4_ (labelL { data := #[112, 97, 99, 107, 101, 116] } [p, q]).length c4_), (.slice A5_ (labelL { data := #[112, 97, 99, 107, 101, 116] } [p, q]).length c5_), (.slice A9 (labelL { data := #[100, 101, 118, 105, 99, 101] } [p, q]).length c9), .bool true, .bool false, .slice (some ⟨g4, 0, none⟩) 2 2, (.slice A1_ (labelL { data := #[112, 97, 99, 107, 101, 116] } [p, q]).length c1_), .slice (some ⟨g5, 0, none⟩) 2 2, (.slice A3_ (labelL { data := #[112, 97, 99, 107, 101, 116] } [p, q]).length c3_), .slice (some ⟨g4, 0, none⟩) 2 2, (.slice A9 (labelL { data := #[100, 101, 118, 105, 99, 101] } [p, q]).length c9), (.slice A0_v (labelL { data := #[112, 97, 99, 107, 101, 116] } [p, q]).length c0_v), (.slice A1_v (labelL { data := #[112, 97, 99, 107, 101, 116] } [p, q]).length c1_v), .bool true, (.agg (arr .i64 [p, q])), (.agg (arr .i64 [p, q])), .bool true, .bool false, .bool false, (.slice A8_v (labelL { data := #[112, 97, 99, 107, 101, 116] } [p, q]).length c8_v), (.slice A9_v (labelL { data := #[100, 101, 118, 105, 99, 101] } [p, q]).length c9_v), .bool false, .bool false, (.agg (arr .i64 [p, q])), (.agg (arr .i64 [p, q])), (.bool false), (.bool false), (.agg (arr .u8 (sec))), (.pointer (some ⟨g4, 0, none⟩)), (.int .i64 p), (.pointer (some ⟨g4, 1, none⟩)), (.int .i64 q), (.agg (arr .u8 (keyL sec { data := #[112, 97, 99, 107, 101, 116] } [p, q]))), (.agg (arr .u8 (sec))), (.pointer (some ⟨g5, 0, none⟩)), (.int .i64 p), (.pointer (some ⟨g5, 1, none⟩)), (.int .i64 q), (.agg (arr .u8 (keyL sec { data := #[112, 97, 99, 107, 101, 116] } [p, q]))), (.bool true), (.bool true)], defers := [] } := frame_ext h.size h.defers (.cons (h.kept 0 (by kernel_rfl)) (.cons (h.kept 1 (by kernel_rfl)) (.cons (h.kept 2 (by kernel_rfl)) (.cons (h.kept 3 (by kernel_rfl)) (.cons (h.kept 4 (by kernel_rfl)) (.cons (h.kept 5 (by kernel_rfl)) (.cons f18 (.cons (h.kept 7 (by kernel_rfl)) (.cons (h.kept 8 (by kernel_rfl)) (.cons (h.kept 9 (by kernel_rfl)) (.cons (h.kept 10 (by kernel_rfl)) (.cons (h.kept 11 (by kernel_rfl)) (.cons (h.kept 12 (by kernel_rfl)) (.cons (h.kept 13 (by kernel_rfl)) (.cons (h.kept 14 (by kernel_rfl)) (.cons (h.kept 15 (by kernel_rfl)) (.cons (h.kept 16 (by kernel_rfl)) (.cons (h.kept 17 (by kernel_rfl)) (.cons (h.kept 18 (by kernel_rfl)) (.cons (h.kept 19 (by kernel_rfl)) (.cons (h.kept 20 (by kernel_rfl)) (.cons (h.kept 21 (by kernel_rfl)) (.cons (h.kept 22 (by kernel_rfl)) (.cons (h.kept 23 (by kernel_rfl)) (.cons (h.kept 24 (by kernel_rfl)) (.cons (h.kept 25 (by kernel_rfl)) (.cons (h.kept 26 (by kernel_rfl)) (.cons (h.kept 27 (by kernel_rfl)) (.cons (h.kept 28 (by kernel_rfl)) (.cons (h.kept 29 (by kernel_rfl)) (.cons f0 (.cons f1 (.cons f2 (.cons f3 (.cons f4 (.cons f5 (.cons f6 (.cons f7 (.cons f8 (.cons f9 (.cons f10 (.cons f11 (.cons f12 (.cons f13 (.cons f14 (.cons f15 (.cons f16 (.cons f17 (.nil)))))))))))))))))))))))))))))))))))))))))))))))))
        have hbel := h.below
        subst ha
        clear h
        go_wp2
        go_ret
        exact ⟨rfl, (below_drew HBE7.out).trans (hbel.mono HBE7.out.size)⟩
set_option maxHeartbeats 8000000 in
set_option maxRecDepth 100000 in
theorem KeysApart_else (sec : List Int) (p q r t : Int) (w : World) (hsl : sec.length = 32) (hBs : Bytes sec) (hne : decide ([p, q] = [r, t]) = false) (huv : decide (labelL { data := #[112, 97, 99, 107, 101, 116] } [p, q] = labelL { data := #[112, 97, 99, 107, 101, 116] } [r, t]) = false) :
    Calls Try.prog 11 #[.agg (arr .u8 sec), .agg (arr .i64 [p, q]), .agg (arr .i64 [r, t])] w fun e w' => e = .returned (.bool true) ∧ Below w.heap.size w w' := by
  have HBS := Aside0.mk hBs
  have HSL := Aside0.mk hsl
  have HB := Aside0.mk hne
  have HUV := Aside0.mk huv
  clear hne huv
  clear hBs hsl
  go_enter Try.func11, Try.ntmps11
  go_wp2_with (first | ((with_reducible refine gate_dst (N := 3) rfl ?_); refine L_box rfl 38 (.tmp 0) rfl ((.agg (arr .u8 (sec)))) rfl ?_; intro g3 w1 hb3 hg3 hs3 hl3; have HB3 := Aside0.mk hb3; clear hb3; have HG3 := Aside0.mk hg3; clear hg3; have HS3 := Aside0.mk hs3; clear hs3; have HL3 := Aside0.mk hl3; clear hl3) | ((with_reducible refine gate_dst (N := 4) rfl ?_); refine L_box rfl 60 (.tmp 1) rfl ((.agg (arr .i64 [p, q]))) rfl ?_; intro g4 w2 hb4 hg4 hs4 hl4; have HB4 := Aside0.mk hb4; clear hb4; have HG4 := Aside0.mk hg4; clear hg4; have HS4 := Aside0.mk hs4; clear hs4; have HL4 := Aside0.mk hl4; clear hl4) | ((with_reducible refine gate_dst (N := 5) rfl ?_); refine L_box rfl 60 (.tmp 2) rfl ((.agg (arr .i64 [r, t]))) rfl ?_; intro g5 w3 hb5 hg5 hs5 hl5; have HB5 := Aside0.mk hb5; clear hb5; have HG5 := Aside0.mk hg5; clear hg5; have HS5 := Aside0.mk hs5; clear hs5; have HL5 := Aside0.mk hl5; clear hl5) | (go_at_call 33; refine (awake05_calls _).mono ?_; rintro e wa ⟨rfl, hba⟩; have HBA := Aside0.mk hba; clear hba))
  have HX3 := Aside0.mk ((HBA.out.block g3 (Nat.lt_of_lt_of_le (blk_lt HB3.out) (Nat.le_trans HL4.out.size HL5.out.size))).trans ((HL5.out.block g3 (Nat.lt_of_lt_of_le (blk_lt HB3.out) HL4.out.size)).trans ((HL4.out.block g3 (blk_lt HB3.out)).trans HB3.out)))
  have HX4 := Aside0.mk ((HBA.out.block g4 (Nat.lt_of_lt_of_le (blk_lt HB4.out) HL5.out.size)).trans ((HL5.out.block g4 (blk_lt HB4.out)).trans HB4.out))
  have HX5 := Aside0.mk ((HBA.out.block g5 (blk_lt HB5.out)).trans HB5.out)
  have HBE := Aside0.mk (below_step (below_step (below_step HL3.out HL4.out) HL5.out) HBA.out)
  clear HB3 HG3 HS3 HL3 HB4 HG4 HS4 HL4 HB5 HG5 HS5 HL5 HBA
  refine region_facts (by kernel_rfl) (getS [fun v _ => v = (.slice (some ⟨g4, 0, none⟩) 2 2), fun v w => ∃ A c, v = .slice A (labelL { data := #[112, 97, 99, 107, 101, 116] } [p, q]).length c ∧ (labelL { data := #[112, 97, 99, 107, 101, 116] } [p, q]).length ≤ c ∧ Kd.C (Kd.int .u8) w A (labelL { data := #[112, 97, 99, 107, 101, 116] } [p, q]).length (labelL { data := #[112, 97, 99, 107, 101, 116] } [p, q]), fun v _ => v = (.slice (some ⟨g5, 0, none⟩) 2 2), fun v w => ∃ A c, v = .slice A (labelL { data := #[112, 97, 99, 107, 101, 116] } [r, t]).length c ∧ (labelL { data := #[112, 97, 99, 107, 101, 116] } [r, t]).length ≤ c ∧ Kd.C (Kd.int .u8) w A (labelL { data := #[112, 97, 99, 107, 101, 116] } [r, t]).length (labelL { data := #[112, 97, 99, 107, 101, 116] } [r, t]), fun v w => ∃ A c, v = .slice A (labelL { data := #[112, 97, 99, 107, 101, 116] } [p, q]).length c ∧ (labelL { data := #[112, 97, 99, 107, 101, 116] } [p, q]).length ≤ c ∧ Kd.C (Kd.int .u8) w A (labelL { data := #[112, 97, 99, 107, 101, 116] } [p, q]).length (labelL { data := #[112, 97, 99, 107, 101, 116] } [p, q]), fun v w => ∃ A c, v = .slice A (labelL { data := #[112, 97, 99, 107, 101, 116] } [r, t]).length c ∧ (labelL { data := #[112, 97, 99, 107, 101, 116] } [r, t]).length ≤ c ∧ Kd.C (Kd.int .u8) w A (labelL { data := #[112, 97, 99, 107, 101, 116] } [r, t]).length (labelL { data := #[112, 97, 99, 107, 101, 116] } [r, t])]) (fun _ => false) 6 (by kernel_rfl) (AllStab.spec (.cons (stab_val _) (.cons (stab_C _ _) (.cons (stab_val _) (.cons (stab_C _ _) (.cons (stab_C _ _) (.cons (stab_C _ _) .nil))))))) (dst_of (by kernel_rfl)) (EachOp.of ?rop11_3) ?rfin11_3
  case rop11_3 =>
    refine .cons (fun did a W h hd => ?_) ?_
    · have k4 : a.eval (.tmp 4) = .pointer (some ⟨g4, 0, none⟩) := h.kept 4 (by kernel_rfl)
      exact A_cutarr (wanted_none rfl) 60 3 2 (.tmp 4) rfl Try.underlying60 (by kernel_rfl) g4 k4 rfl rfl
    refine .cons (fun did a W h hd => ?_) ?_
    · have f0 : a.eval (.tmp 12) = (.slice (some ⟨g4, 0, none⟩) 2 2) := h.fact 0 (by decide) (hd 0 (by kernel_rfl))
      exact A_call (wanted_none rfl) 36 #[.const (.string { data := #[112, 97, 99, 107, 101, 116] }), .tmp 12] #[9, 59] rfl #[.string { data := #[112, 97, 99, 107, 101, 116] }, .slice (some ⟨g4, 0, none⟩) 2 2] (by simp only [List.map_toArray, List.map_cons, List.map_nil, f0] <;> rfl) (by kernel_rfl) ((refOf_calls { data := #[112, 97, 99, 107, 101, 116] } (some ⟨g4, 0, none⟩) 2 [p, q] _ (by decide) (C_arr (xs := [p, q]) ((h.below.block g4 (blk_lt HX4.out)).trans HX4.out) (by simp)) (by simp) (by simp)).mono fun e w' ⟨A, c, h1, h2, h3, h4⟩ => ⟨_, h1, h4, A, c, rfl, h2, h3⟩) rfl
    refine .cons (fun did a W h hd => ?_) ?_
    · have k5 : a.eval (.tmp 5) = .pointer (some ⟨g5, 0, none⟩) := h.kept 5 (by kernel_rfl)
      exact A_cutarr (wanted_none rfl) 60 3 2 (.tmp 5) rfl Try.underlying60 (by kernel_rfl) g5 k5 rfl rfl
    refine .cons (fun did a W h hd => ?_) ?_
    · obtain ⟨A1_, c1_, f1, l1, b1⟩ : ∃ A c, a.eval (.tmp 13) = .slice A (labelL { data := #[112, 97, 99, 107, 101, 116] } [p, q]).length c ∧ (labelL { data := #[112, 97, 99, 107, 101, 116] } [p, q]).length ≤ c ∧ Kd.C (Kd.int .u8) W A (labelL { data := #[112, 97, 99, 107, 101, 116] } [p, q]).length (labelL { data := #[112, 97, 99, 107, 101, 116] } [p, q]) := h.fact 1 (by decide) (hd 1 (by kernel_rfl))
      have f2 : a.eval (.tmp 14) = (.slice (some ⟨g5, 0, none⟩) 2 2) := h.fact 2 (by decide) (hd 2 (by kernel_rfl))
      exact A_call (wanted_none rfl) 36 #[.const (.string { data := #[112, 97, 99, 107, 101, 116] }), .tmp 14] #[9, 59] rfl #[.string { data := #[112, 97, 99, 107, 101, 116] }, .slice (some ⟨g5, 0, none⟩) 2 2] (by simp only [List.map_toArray, List.map_cons, List.map_nil, f2] <;> rfl) (by kernel_rfl) ((refOf_calls { data := #[112, 97, 99, 107, 101, 116] } (some ⟨g5, 0, none⟩) 2 [r, t] _ (by decide) (C_arr (xs := [r, t]) ((h.below.block g5 (blk_lt HX5.out)).trans HX5.out) (by simp)) (by simp) (by simp)).mono fun e w' ⟨A, c, h1, h2, h3, h4⟩ => ⟨_, h1, h4, A, c, rfl, h2, h3⟩) rfl
    refine .cons (fun did a W h hd => ?_) ?_
    · have f0 : a.eval (.tmp 12) = (.slice (some ⟨g4, 0, none⟩) 2 2) := h.fact 0 (by decide) (hd 0 (by kernel_rfl))
      obtain ⟨A1_, c1_, f1, l1, b1⟩ : ∃ A c, a.eval (.tmp 13) = .slice A (labelL { data := #[112, 97, 99, 107, 101, 116] } [p, q]).length c ∧ (labelL { data := #[112, 97, 99, 107, 101, 116] } [p, q]).length ≤ c ∧ Kd.C (Kd.int .u8) W A (labelL { data := #[112, 97, 99, 107, 101, 116] } [p, q]).length (labelL { data := #[112, 97, 99, 107, 101, 116] } [p, q]) := h.fact 1 (by decide) (hd 1 (by kernel_rfl))
      obtain ⟨A3_, c3_, f3, l3, b3⟩ : ∃ A c, a.eval (.tmp 15) = .slice A (labelL { data := #[112, 97, 99, 107, 101, 116] } [r, t]).length c ∧ (labelL { data := #[112, 97, 99, 107, 101, 116] } [r, t]).length ≤ c ∧ Kd.C (Kd.int .u8) W A (labelL { data := #[112, 97, 99, 107, 101, 116] } [r, t]).length (labelL { data := #[112, 97, 99, 107, 101, 116] } [r, t]) := h.fact 3 (by decide) (hd 3 (by kernel_rfl))
      exact A_assign (wanted_none rfl) _ rfl _ f1 ⟨_, _, rfl, l1, b1⟩ rfl
    refine .cons (fun did a W h hd => ?_) ?_
    · have f0 : a.eval (.tmp 12) = (.slice (some ⟨g4, 0, none⟩) 2 2) := h.fact 0 (by decide) (hd 0 (by kernel_rfl))
      obtain ⟨A1_, c1_, f1, l1, b1⟩ : ∃ A c, a.eval (.tmp 13) = .slice A (labelL { data := #[112, 97, 99, 107, 101, 116] } [p, q]).length c ∧ (labelL { data := #[112, 97, 99, 107, 101, 116] } [p, q]).length ≤ c ∧ Kd.C (Kd.int .u8) W A (labelL { data := #[112, 97, 99, 107, 101, 116] } [p, q]).length (labelL { data := #[112, 97, 99, 107, 101, 116] } [p, q]) := h.fact 1 (by decide) (hd 1 (by kernel_rfl))
      have f2 : a.eval (.tmp 14) = (.slice (some ⟨g5, 0, none⟩) 2 2) := h.fact 2 (by decide) (hd 2 (by kernel_rfl))
      obtain ⟨A3_, c3_, f3, l3, b3⟩ : ∃ A c, a.eval (.tmp 15) = .slice A (labelL { data := #[112, 97, 99, 107, 101, 116] } [r, t]).length c ∧ (labelL { data := #[112, 97, 99, 107, 101, 116] } [r, t]).length ≤ c ∧ Kd.C (Kd.int .u8) W A (labelL { data := #[112, 97, 99, 107, 101, 116] } [r, t]).length (labelL { data := #[112, 97, 99, 107, 101, 116] } [r, t]) := h.fact 3 (by decide) (hd 3 (by kernel_rfl))
      obtain ⟨A4_, c4_, f4, l4, b4⟩ : ∃ A c, a.eval (.tmp 7) = .slice A (labelL { data := #[112, 97, 99, 107, 101, 116] } [p, q]).length c ∧ (labelL { data := #[112, 97, 99, 107, 101, 116] } [p, q]).length ≤ c ∧ Kd.C (Kd.int .u8) W A (labelL { data := #[112, 97, 99, 107, 101, 116] } [p, q]).length (labelL { data := #[112, 97, 99, 107, 101, 116] } [p, q]) := h.fact 4 (by decide) (hd 4 (by kernel_rfl))
      exact A_assign (wanted_none rfl) _ rfl _ f3 ⟨_, _, rfl, l3, b3⟩ rfl
    exact .nil
  case rfin11_3 =>
    intro a W h
    refine wpAny_done (by kernel_rfl) ?_ _
    have f0 : a.eval (.tmp 12) = (.slice (some ⟨g4, 0, none⟩) 2 2) := h.fact 0 (by decide) trivial
    obtain ⟨A1_, c1_, f1, l1, b1⟩ : ∃ A c, a.eval (.tmp 13) = .slice A (labelL { data := #[112, 97, 99, 107, 101, 116] } [p, q]).length c ∧ (labelL { data := #[112, 97, 99, 107, 101, 116] } [p, q]).length ≤ c ∧ Kd.C (Kd.int .u8) W A (labelL { data := #[112, 97, 99, 107, 101, 116] } [p, q]).length (labelL { data := #[112, 97, 99, 107, 101, 116] } [p, q]) := h.fact 1 (by decide) trivial
    have f2 : a.eval (.tmp 14) = (.slice (some ⟨g5, 0, none⟩) 2 2) := h.fact 2 (by decide) trivial
    obtain ⟨A3_, c3_, f3, l3, b3⟩ : ∃ A c, a.eval (.tmp 15) = .slice A (labelL { data := #[112, 97, 99, 107, 101, 116] } [r, t]).length c ∧ (labelL { data := #[112, 97, 99, 107, 101, 116] } [r, t]).length ≤ c ∧ Kd.C (Kd.int .u8) W A (labelL { data := #[112, 97, 99, 107, 101, 116] } [r, t]).length (labelL { data := #[112, 97, 99, 107, 101, 116] } [r, t]) := h.fact 3 (by decide) trivial
    obtain ⟨A4_, c4_, f4, l4, b4⟩ : ∃ A c, a.eval (.tmp 7) = .slice A (labelL { data := #[112, 97, 99, 107, 101, 116] } [p, q]).length c ∧ (labelL { data := #[112, 97, 99, 107, 101, 116] } [p, q]).length ≤ c ∧ Kd.C (Kd.int .u8) W A (labelL { data := #[112, 97, 99, 107, 101, 116] } [p, q]).length (labelL { data := #[112, 97, 99, 107, 101, 116] } [p, q]) := h.fact 4 (by decide) trivial
    obtain ⟨A5_, c5_, f5, l5, b5⟩ : ∃ A c, a.eval (.tmp 8) = .slice A (labelL { data := #[112, 97, 99, 107, 101, 116] } [r, t]).length c ∧ (labelL { data := #[112, 97, 99, 107, 101, 116] } [r, t]).length ≤ c ∧ Kd.C (Kd.int .u8) W A (labelL { data := #[112, 97, 99, 107, 101, 116] } [r, t]).length (labelL { data := #[112, 97, 99, 107, 101, 116] } [r, t]) := h.fact 5 (by decide) trivial
    have ha : a = { tmps := #[(.agg (arr .u8 (sec))), (.agg (arr .i64 [p, q])), (.agg (arr .i64 [r, t])), .pointer (some ⟨g3, 0, none⟩), .pointer (some ⟨g4, 0, none⟩), .pointer (some ⟨g5, 0, none⟩), .bool false, Value.slice A4_ (labelL { data := #[112, 97, 99, 107, 101, 116] } [p, q]).length c4_, Value.slice A5_ (labelL { data := #[112, 97, 99, 107, 101, 116] } [r, t]).length c5_, undef, .bool true, .bool false, (.slice (some ⟨g4, 0, none⟩) 2 2), Value.slice A1_ (labelL { data := #[112, 97, 99, 107, 101, 116] } [p, q]).length c1_, (.slice (some ⟨g5, 0, none⟩) 2 2), Value.slice A3_ (labelL { data := #[112, 97, 99, 107, 101, 116] } [r, t]).length c3_, undef, undef, undef, undef, undef, undef, undef, undef, undef, undef, undef, undef, undef, undef, undef, undef, undef, undef, undef, undef, undef, undef, undef, undef, undef, undef, undef, undef, undef, undef, undef, undef], defers := [] } := frame_ext h.size h.defers (.cons (h.kept 0 (by kernel_rfl)) (.cons (h.kept 1 (by kernel_rfl)) (.cons (h.kept 2 (by kernel_rfl)) (.cons (h.kept 3 (by kernel_rfl)) (.cons (h.kept 4 (by kernel_rfl)) (.cons (h.kept 5 (by kernel_rfl)) (.cons (h.kept 6 (by kernel_rfl)) (.cons f4 (.cons f5 (.cons (h.kept 9 (by kernel_rfl)) (.cons (h.kept 10 (by kernel_rfl)) (.cons (h.kept 11 (by kernel_rfl)) (.cons f0 (.cons f1 (.cons f2 (.cons f3 (.cons (h.kept 16 (by kernel_rfl)) (.cons (h.kept 17 (by kernel_rfl)) (.cons (h.kept 18 (by kernel_rfl)) (.cons (h.kept 19 (by kernel_rfl)) (.cons (h.kept 20 (by kernel_rfl)) (.cons (h.kept 21 (by kernel_rfl)) (.cons (h.kept 22 (by kernel_rfl)) (.cons (h.kept 23 (by kernel_rfl)) (.cons (h.kept 24 (by kernel_rfl)) (.cons (h.kept 25 (by kernel_rfl)) (.cons (h.kept 26 (by kernel_rfl)) (.cons (h.kept 27 (by kernel_rfl)) (.cons (h.kept 28 (by kernel_rfl)) (.cons (h.kept 29 (by kernel_rfl)) (.cons (h.kept 30 (by kernel_rfl)) (.cons (h.kept 31 (by kernel_rfl)) (.cons (h.kept 32 (by kernel_rfl)) (.cons (h.kept 33 (by kernel_rfl)) (.cons (h.kept 34 (by kernel_rfl)) (.cons (h.kept 35 (by kernel_rfl)) (.cons (h.kept 36 (by kernel_rfl)) (.cons (h.kept 37 (by kernel_rfl)) (.cons (h.kept 38 (by kernel_rfl)) (.cons (h.kept 39 (by kernel_rfl)) (.cons (h.kept 40 (by kernel_rfl)) (.cons (h.kept 41 (by kernel_rfl)) (.cons (h.kept 42 (by kernel_rfl)) (.cons (h.kept 43 (by kernel_rfl)) (.cons (h.kept 44 (by kernel_rfl)) (.cons (h.kept 45 (by kernel_rfl)) (.cons (h.kept 46 (by kernel_rfl)) (.cons (h.kept 47 (by kernel_rfl)) (.nil)))))))))))))))))))))))))))))))))))))))))))))))))
    have hbel := h.below
    subst ha
    clear h
    have HC4 := Aside0.mk b4
    have HC5 := Aside0.mk b5
    have HBE3 := Aside0.mk ((below_drew HBE.out).trans (hbel.mono HBE.out.size))
    have HY3a := Aside0.mk ((hbel.block g3 (blk_lt HX3.out)).trans HX3.out)
    have HY4a := Aside0.mk ((hbel.block g4 (blk_lt HX4.out)).trans HX4.out)
    have HY5a := Aside0.mk ((hbel.block g5 (blk_lt HX5.out)).trans HX5.out)
    have HL4c := l4
    have HL5c := l5
    clear hbel f0 f1 f2 f3 f4 f5 l1 b1 l3 b3 b4 b5 l4 l5
    go_wp2_with (go_at_call 36; refine (refOf_calls { data := #[100, 101, 118, 105, 99, 101] } (some ⟨g4, 0, none⟩) 2 [p, q] _ (by decide) (C_arr (xs := [p, q]) HY4a.out (by simp)) (by simp) (by simp)).mono ?_; rintro e w9 ⟨A9, c9, rfl, hle9, hC9, hb9⟩; have HL9c := hle9; have HC9 := Aside0.mk hC9; have HB9 := Aside0.mk hb9; clear hC9 hb9 hle9)
    have HY3 := Aside0.mk ((HB9.out.block g3 (blk_lt HY3a.out)).trans HY3a.out)
    have HY4 := Aside0.mk ((HB9.out.block g4 (blk_lt HY4a.out)).trans HY4a.out)
    have HY5 := Aside0.mk ((HB9.out.block g5 (blk_lt HY5a.out)).trans HY5a.out)
    have hc4 := Kd.C_below HC4.out HB9.out
    have hc5 := Kd.C_below HC5.out HB9.out
    clear HC4 HC5
    have HC4 := Aside0.mk hc4
    have HC5 := Aside0.mk hc5
    have HBE5 := Aside0.mk (below_step HBE3.out HB9.out)
    clear hc4 hc5 HY3a HY4a HY5a HB9 HBE3
    refine region_facts (by kernel_rfl) (getS [fun v w => ∃ A c, v = .slice A (labelL { data := #[112, 97, 99, 107, 101, 116] } [p, q]).length c ∧ (labelL { data := #[112, 97, 99, 107, 101, 116] } [p, q]).length ≤ c ∧ Kd.C (Kd.int .u8) w A (labelL { data := #[112, 97, 99, 107, 101, 116] } [p, q]).length (labelL { data := #[112, 97, 99, 107, 101, 116] } [p, q]), fun v w => ∃ A c, v = .slice A (labelL { data := #[112, 97, 99, 107, 101, 116] } [r, t]).length c ∧ (labelL { data := #[112, 97, 99, 107, 101, 116] } [r, t]).length ≤ c ∧ Kd.C (Kd.int .u8) w A (labelL { data := #[112, 97, 99, 107, 101, 116] } [r, t]).length (labelL { data := #[112, 97, 99, 107, 101, 116] } [r, t]), fun v _ => v = (.bool false), fun v _ => v = (.agg (arr .i64 [p, q])), fun v _ => v = (.agg (arr .i64 [r, t])), fun v _ => v = (.bool false), fun v _ => v = (.bool false), fun v _ => v = (.bool false), fun v w => ∃ A c, v = .slice A (labelL { data := #[112, 97, 99, 107, 101, 116] } [p, q]).length c ∧ (labelL { data := #[112, 97, 99, 107, 101, 116] } [p, q]).length ≤ c ∧ Kd.C (Kd.int .u8) w A (labelL { data := #[112, 97, 99, 107, 101, 116] } [p, q]).length (labelL { data := #[112, 97, 99, 107, 101, 116] } [p, q]), fun v w => ∃ A c, v = .slice A (labelL { data := #[100, 101, 118, 105, 99, 101] } [p, q]).length c ∧ (labelL { data := #[100, 101, 118, 105, 99, 101] } [p, q]).length ≤ c ∧ Kd.C (Kd.int .u8) w A (labelL { data := #[100, 101, 118, 105, 99, 101] } [p, q]).length (labelL { data := #[100, 101, 118, 105, 99, 101] } [p, q]), fun v _ => v = (.bool false), fun v _ => v = (.bool false)]) (fun _ => false) 12 (by kernel_rfl) (AllStab.spec (.cons (stab_C _ _) (.cons (stab_C _ _) (.cons (stab_val _) (.cons (stab_val _) (.cons (stab_val _) (.cons (stab_val _) (.cons (stab_val _) (.cons (stab_val _) (.cons (stab_C _ _) (.cons (stab_C _ _) (.cons (stab_val _) (.cons (stab_val _) .nil))))))))))))) (dst_of (by kernel_rfl)) (EachOp.of ?rop11_5) ?rfin11_5
    case rop11_5 =>
      refine .cons (fun did a W h hd => ?_) ?_
      · have k7 : a.eval (.tmp 7) = (.slice A4_ (labelL { data := #[112, 97, 99, 107, 101, 116] } [p, q]).length c4_) := h.kept 7 (by kernel_rfl)
        exact A_move (wanted_none rfl) _ rfl _ k7 ⟨_, _, rfl, HL4c, Kd.C_below HC4.out (below_of_drew h.below)⟩ rfl
      refine .cons (fun did a W h hd => ?_) ?_
      · have k8 : a.eval (.tmp 8) = (.slice A5_ (labelL { data := #[112, 97, 99, 107, 101, 116] } [r, t]).length c5_) := h.kept 8 (by kernel_rfl)
        exact A_move (wanted_none rfl) _ rfl _ k8 ⟨_, _, rfl, HL5c, Kd.C_below HC5.out (below_of_drew h.below)⟩ rfl
      refine .cons (fun did a W h hd => ?_) ?_
      · obtain ⟨A0_v, c0_v, f0, l0, b0⟩ : ∃ A c, a.eval (.tmp 18) = .slice A (labelL { data := #[112, 97, 99, 107, 101, 116] } [p, q]).length c ∧ (labelL { data := #[112, 97, 99, 107, 101, 116] } [p, q]).length ≤ c ∧ Kd.C (Kd.int .u8) W A (labelL { data := #[112, 97, 99, 107, 101, 116] } [p, q]).length (labelL { data := #[112, 97, 99, 107, 101, 116] } [p, q]) := h.fact 0 (by decide) (hd 0 (by kernel_rfl))
        obtain ⟨A1_v, c1_v, f1, l1, b1⟩ : ∃ A c, a.eval (.tmp 19) = .slice A (labelL { data := #[112, 97, 99, 107, 101, 116] } [r, t]).length c ∧ (labelL { data := #[112, 97, 99, 107, 101, 116] } [r, t]).length ≤ c ∧ Kd.C (Kd.int .u8) W A (labelL { data := #[112, 97, 99, 107, 101, 116] } [r, t]).length (labelL { data := #[112, 97, 99, 107, 101, 116] } [r, t]) := h.fact 1 (by decide) (hd 1 (by kernel_rfl))
        exact A_call (wanted_none rfl) 18 #[.tmp 18, .tmp 19] #[24, 24] rfl #[.slice A0_v (labelL { data := #[112, 97, 99, 107, 101, 116] } [p, q]).length c0_v, .slice A1_v (labelL { data := #[112, 97, 99, 107, 101, 116] } [r, t]).length c1_v] (by simp only [List.map_toArray, List.map_cons, List.map_nil, f0, f1] <;> rfl) (by kernel_rfl) ((sameB_calls A0_v c0_v (labelL { data := #[112, 97, 99, 107, 101, 116] } [p, q]) A1_v c1_v (labelL { data := #[112, 97, 99, 107, 101, 116] } [r, t]) false _ b0 l0 b1 l1 (by rw [labelL_length]; exact Nat.le_of_ble_eq_true rfl) (HUV.out)).mono fun e w' hh => ⟨_, hh.1, hh.2, rfl⟩) rfl
      refine .cons (fun did a W h hd => ?_) ?_
      · have k4 : a.eval (.tmp 4) = .pointer (some ⟨g4, 0, none⟩) := h.kept 4 (by kernel_rfl)
        exact A_load (wanted_none rfl) 60 (.tmp 4) rfl g4 k4 60 (arr .i64 [p, q]) _ ((h.below.block g4 (blk_lt HY4.out)).trans HY4.out) Try.underlying60 rfl (by kernel_rfl) rfl rfl
      refine .cons (fun did a W h hd => ?_) ?_
      · have k5 : a.eval (.tmp 5) = .pointer (some ⟨g5, 0, none⟩) := h.kept 5 (by kernel_rfl)
        exact A_load (wanted_none rfl) 60 (.tmp 5) rfl g5 k5 60 (arr .i64 [r, t]) _ ((h.below.block g5 (blk_lt HY5.out)).trans HY5.out) Try.underlying60 rfl (by kernel_rfl) rfl rfl
      refine .cons (fun did a W h hd => ?_) ?_
      · have f3 : a.eval (.tmp 21) = (.agg (arr .i64 [p, q])) := h.fact 3 (by decide) (hd 3 (by kernel_rfl))
        have f4 : a.eval (.tmp 22) = (.agg (arr .i64 [r, t])) := h.fact 4 (by decide) (hd 4 (by kernel_rfl))
        exact A_eqarr (wanted_none rfl) 60 3 2 .i64 (.tmp 21) (.tmp 22) 60 rfl Try.underlying60 Try.underlying3 (by kernel_rfl) (by kernel_rfl) [p, q] [r, t] f3 f4 rfl rfl false HB.out rfl rfl
      refine .cons (fun did a W h hd => ?_) ?_
      · have f2 : a.eval (.tmp 20) = (.bool false) := h.fact 2 (by decide) (hd 2 (by kernel_rfl))
        have f5 : a.eval (.tmp 23) = (.bool false) := h.fact 5 (by decide) (hd 5 (by kernel_rfl))
        exact A_bin (wanted_none rfl) _ _ _ _ _ rfl _ _ f2 f5 ((.bool false)) (by simp [eqGuard, binOp, Op.equal, Op.maxDepth, go_sem, Try.underlying4]) rfl rfl
      refine .cons (fun did a W h hd => ?_) ?_
      · have f2 : a.eval (.tmp 20) = (.bool false) := h.fact 2 (by decide) (hd 2 (by kernel_rfl))
        have f6 : a.eval (.tmp 24) = (.bool false) := h.fact 6 (by decide) (hd 6 (by kernel_rfl))
        exact A_move (wanted_none rfl) _ rfl ((.bool false)) f6 rfl rfl
      refine .cons (fun did a W h hd => ?_) ?_
      · have k7 : a.eval (.tmp 7) = (.slice A4_ (labelL { data := #[112, 97, 99, 107, 101, 116] } [p, q]).length c4_) := h.kept 7 (by kernel_rfl)
        have f7 : a.eval (.tmp 25) = (.bool false) := h.fact 7 (by decide) (hd 7 (by kernel_rfl))
        exact A_move (wanted_yes (j := 7) rfl rfl rfl f7) _ rfl _ k7 ⟨_, _, rfl, HL4c, Kd.C_below HC4.out (below_of_drew h.below)⟩ rfl
      refine .cons (fun did a W h hd => ?_) ?_
      · have k9 : a.eval (.tmp 9) = (.slice A9 (labelL { data := #[100, 101, 118, 105, 99, 101] } [p, q]).length c9) := h.kept 9 (by kernel_rfl)
        have f7 : a.eval (.tmp 25) = (.bool false) := h.fact 7 (by decide) (hd 7 (by kernel_rfl))
        exact A_move (wanted_yes (j := 7) rfl rfl rfl f7) _ rfl _ k9 ⟨_, _, rfl, HL9c, Kd.C_below HC9.out (below_of_drew h.below)⟩ rfl
      refine .cons (fun did a W h hd => ?_) ?_
      · have f7 : a.eval (.tmp 25) = (.bool false) := h.fact 7 (by decide) (hd 7 (by kernel_rfl))
        obtain ⟨A8_v, c8_v, f8, l8, b8⟩ : ∃ A c, a.eval (.tmp 26) = .slice A (labelL { data := #[112, 97, 99, 107, 101, 116] } [p, q]).length c ∧ (labelL { data := #[112, 97, 99, 107, 101, 116] } [p, q]).length ≤ c ∧ Kd.C (Kd.int .u8) W A (labelL { data := #[112, 97, 99, 107, 101, 116] } [p, q]).length (labelL { data := #[112, 97, 99, 107, 101, 116] } [p, q]) := h.fact 8 (by decide) (hd 8 (by kernel_rfl))
        obtain ⟨A9_v, c9_v, f9, l9, b9⟩ : ∃ A c, a.eval (.tmp 27) = .slice A (labelL { data := #[100, 101, 118, 105, 99, 101] } [p, q]).length c ∧ (labelL { data := #[100, 101, 118, 105, 99, 101] } [p, q]).length ≤ c ∧ Kd.C (Kd.int .u8) W A (labelL { data := #[100, 101, 118, 105, 99, 101] } [p, q]).length (labelL { data := #[100, 101, 118, 105, 99, 101] } [p, q]) := h.fact 9 (by decide) (hd 9 (by kernel_rfl))
        exact A_call (wanted_yes (j := 7) rfl rfl rfl f7) 18 #[.tmp 26, .tmp 27] #[24, 24] rfl #[.slice A8_v (labelL { data := #[112, 97, 99, 107, 101, 116] } [p, q]).length c8_v, .slice A9_v (labelL { data := #[100, 101, 118, 105, 99, 101] } [p, q]).length c9_v] (by simp only [List.map_toArray, List.map_cons, List.map_nil, f8, f9] <;> rfl) (by kernel_rfl) ((sameB_calls A8_v c8_v (labelL { data := #[112, 97, 99, 107, 101, 116] } [p, q]) A9_v c9_v (labelL { data := #[100, 101, 118, 105, 99, 101] } [p, q]) false _ b8 l8 b9 l9 (by rw [labelL_length]; exact Nat.le_of_ble_eq_true rfl) (decide_eq_false (label_pd _ _))).mono fun e w' hh => ⟨_, hh.1, hh.2, rfl⟩) rfl
      refine .cons (fun did a W h hd => ?_) ?_
      · have f7 : a.eval (.tmp 25) = (.bool false) := h.fact 7 (by decide) (hd 7 (by kernel_rfl))
        have f10 : a.eval (.tmp 28) = (.bool false) := h.fact 10 (by decide) (hd 10 (by kernel_rfl))
        exact A_pick (wanted_none rfl) _ _ _ rfl _ f7 ((.bool false)) (by rw [if_neg (by decide)]; exact f10) rfl rfl
      exact .nil
    case rfin11_5 =>
      intro a W h
      refine wpAny_done (by kernel_rfl) ?_ _
      obtain ⟨A0_v, c0_v, f0, l0, b0⟩ : ∃ A c, a.eval (.tmp 18) = .slice A (labelL { data := #[112, 97, 99, 107, 101, 116] } [p, q]).length c ∧ (labelL { data := #[112, 97, 99, 107, 101, 116] } [p, q]).length ≤ c ∧ Kd.C (Kd.int .u8) W A (labelL { data := #[112, 97, 99, 107, 101, 116] } [p, q]).length (labelL { data := #[112, 97, 99, 107, 101, 116] } [p, q]) := h.fact 0 (by decide) trivial
      obtain ⟨A1_v, c1_v, f1, l1, b1⟩ : ∃ A c, a.eval (.tmp 19) = .slice A (labelL { data := #[112, 97, 99, 107, 101, 116] } [r, t]).length c ∧ (labelL { data := #[112, 97, 99, 107, 101, 116] } [r, t]).length ≤ c ∧ Kd.C (Kd.int .u8) W A (labelL { data := #[112, 97, 99, 107, 101, 116] } [r, t]).length (labelL { data := #[112, 97, 99, 107, 101, 116] } [r, t]) := h.fact 1 (by decide) trivial
      have f2 : a.eval (.tmp 20) = (.bool false) := h.fact 2 (by decide) trivial
      have f3 : a.eval (.tmp 21) = (.agg (arr .i64 [p, q])) := h.fact 3 (by decide) trivial
      have f4 : a.eval (.tmp 22) = (.agg (arr .i64 [r, t])) := h.fact 4 (by decide) trivial
      have f5 : a.eval (.tmp 23) = (.bool false) := h.fact 5 (by decide) trivial
      have f6 : a.eval (.tmp 24) = (.bool false) := h.fact 6 (by decide) trivial
      have f7 : a.eval (.tmp 25) = (.bool false) := h.fact 7 (by decide) trivial
      obtain ⟨A8_v, c8_v, f8, l8, b8⟩ : ∃ A c, a.eval (.tmp 26) = .slice A (labelL { data := #[112, 97, 99, 107, 101, 116] } [p, q]).length c ∧ (labelL { data := #[112, 97, 99, 107, 101, 116] } [p, q]).length ≤ c ∧ Kd.C (Kd.int .u8) W A (labelL { data := #[112, 97, 99, 107, 101, 116] } [p, q]).length (labelL { data := #[112, 97, 99, 107, 101, 116] } [p, q]) := h.fact 8 (by decide) trivial
      obtain ⟨A9_v, c9_v, f9, l9, b9⟩ : ∃ A c, a.eval (.tmp 27) = .slice A (labelL { data := #[100, 101, 118, 105, 99, 101] } [p, q]).length c ∧ (labelL { data := #[100, 101, 118, 105, 99, 101] } [p, q]).length ≤ c ∧ Kd.C (Kd.int .u8) W A (labelL { data := #[100, 101, 118, 105, 99, 101] } [p, q]).length (labelL { data := #[100, 101, 118, 105, 99, 101] } [p, q]) := h.fact 9 (by decide) trivial
      have f10 : a.eval (.tmp 28) = (.bool false) := h.fact 10 (by decide) trivial
      have f11 : a.eval (.tmp 29) = (.bool false) := h.fact 11 (by decide) trivial
      have ha : a = { tmps := #[(.agg (arr .u8 (sec))), (.agg (arr .i64 [p, q])), (.agg (arr .i64 [r, t])), .pointer (some ⟨g3, 0, none⟩), .pointer (some ⟨g4, 0, none⟩), .pointer (some ⟨g5, 0, none⟩), .bool false, (.slice A4_ (labelL { data := #[112, 97, 99, 107, 101, 116] } [p, q]).length c4_), (.slice A5_ (labelL { data := #[112, 97, 99, 107, 101, 116] } [r, t]).length c5_), (.slice A9 (labelL { data := #[100, 101, 118, 105, 99, 101] } [p, q]).length c9), .bool true, .bool false, .slice (some ⟨g4, 0, none⟩) 2 2, (.slice A1_ (labelL { data := #[112, 97, 99, 107, 101, 116] } [p, q]).length c1_), .slice (some ⟨g5, 0, none⟩) 2 2, (.slice A3_ (labelL { data := #[112, 97, 99, 107, 101, 116] } [r, t]).length c3_), .slice (some ⟨g4, 0, none⟩) 2 2, (.slice A9 (labelL { data := #[100, 101, 118, 105, 99, 101] } [p, q]).length c9), Value.slice A0_v (labelL { data := #[112, 97, 99, 107, 101, 116] } [p, q]).length c0_v, Value.slice A1_v (labelL { data := #[112, 97, 99, 107, 101, 116] } [r, t]).length c1_v, (.bool false), (.agg (arr .i64 [p, q])), (.agg (arr .i64 [r, t])), (.bool false), (.bool false), (.bool false), Value.slice A8_v (labelL { data := #[112, 97, 99, 107, 101, 116] } [p, q]).length c8_v, Value.slice A9_v (labelL { data := #[100, 101, 118, 105, 99, 101] } [p, q]).length c9_v, (.bool false), (.bool false), undef, undef, undef, undef, undef, undef, undef, undef, undef, undef, undef, undef, undef, undef, undef, undef, undef, undef], defers := [] } := frame_ext h.size h.defers (.cons (h.kept 0 (by kernel_rfl)) (.cons (h.kept 1 (by kernel_rfl)) (.cons (h.kept 2 (by kernel_rfl)) (.cons (h.kept 3 (by kernel_rfl)) (.cons (h.kept 4 (by kernel_rfl)) (.cons (h.kept 5 (by kernel_rfl)) (.cons (h.kept 6 (by kernel_rfl)) (.cons (h.kept 7 (by kernel_rfl)) (.cons (h.kept 8 (by kernel_rfl)) (.cons (h.kept 9 (by kernel_rfl)) (.cons (h.kept 10 (by kernel_rfl)) (.cons (h.kept 11 (by kernel_rfl)) (.cons (h.kept 12 (by kernel_rfl)) (.cons (h.kept 13 (by kernel_rfl)) (.cons (h.kept 14 (by kernel_rfl)) (.cons (h.kept 15 (by kernel_rfl)) (.cons (h.kept 16 (by kernel_rfl)) (.cons (h.kept 17 (by kernel_rfl)) (.cons f0 (.cons f1 (.cons f2 (.cons f3 (.cons f4 (.cons f5 (.cons f6 (.cons f7 (.cons f8 (.cons f9 (.cons f10 (.cons f11 (.cons (h.kept 30 (by kernel_rfl)) (.cons (h.kept 31 (by kernel_rfl)) (.cons (h.kept 32 (by kernel_rfl)) (.cons (h.kept 33 (by kernel_rfl)) (.cons (h.kept 34 (by kernel_rfl)) (.cons (h.kept 35 (by kernel_rfl)) (.cons (h.kept 36 (by kernel_rfl)) (.cons (h.kept 37 (by kernel_rfl)) (.cons (h.kept 38 (by kernel_rfl)) (.cons (h.kept 39 (by kernel_rfl)) (.cons (h.kept 40 (by kernel_rfl)) (.cons (h.kept 41 (by kernel_rfl)) (.cons (h.kept 42 (by kernel_rfl)) (.cons (h.kept 43 (by kernel_rfl)) (.cons (h.kept 44 (by kernel_rfl)) (.cons (h.kept 45 (by kernel_rfl)) (.cons (h.kept 46 (by kernel_rfl)) (.cons (h.kept 47 (by kernel_rfl)) (.nil)))))))))))))))))))))))))))))))))))))))))))))))))
      have hbel := h.below
      subst ha
      clear h
      have HBE7 := Aside0.mk ((below_drew HBE5.out).trans (hbel.mono HBE5.out.size))
      have HZ3 := Aside0.mk ((hbel.block g3 (blk_lt HY3.out)).trans HY3.out)
      have HZ4 := Aside0.mk ((hbel.block g4 (blk_lt HY4.out)).trans HY4.out)
      have HZ5 := Aside0.mk ((hbel.block g5 (blk_lt HY5.out)).trans HY5.out)
      clear hbel f0 f1 f2 f3 f4 f5 f6 f7 f8 f9 f10 f11 l0 l1 l8 l9 b0 b1 b8 b9
      go_wp2
      refine region_facts (by kernel_rfl) (getS [fun v _ => v = (.agg (arr .i64 [p, q])), fun v _ => v = (.agg (arr .i64 [r, t])), fun v _ => v = (.bool true), fun v _ => v = (.bool true), fun v _ => v = undef, fun v _ => v = undef, fun v _ => v = undef, fun v _ => v = undef, fun v _ => v = undef, fun v _ => v = undef, fun v _ => v = undef, fun v _ => v = undef, fun v _ => v = undef, fun v _ => v = undef, fun v _ => v = undef, fun v _ => v = undef, fun v _ => v = undef, fun v _ => v = (.bool true), fun v _ => v = (.bool true)]) (fun _ => false) 19 (by kernel_rfl) (AllStab.spec (.cons (stab_val _) (.cons (stab_val _) (.cons (stab_val _) (.cons (stab_val _) (.cons (stab_val _) (.cons (stab_val _) (.cons (stab_val _) (.cons (stab_val _) (.cons (stab_val _) (.cons (stab_val _) (.cons (stab_val _) (.cons (stab_val _) (.cons (stab_val _) (.cons (stab_val _) (.cons (stab_val _) (.cons (stab_val _) (.cons (stab_val _) (.cons (stab_val _) (.cons (stab_val _) .nil)))))))))))))))))))) (dst_of (by kernel_rfl)) (EachOp.of ?rop11_7) ?rfin11_7
      case rop11_7 =>
        refine .cons (fun did a W h hd => ?_) ?_
        · have k4 : a.eval (.tmp 4) = .pointer (some ⟨g4, 0, none⟩) := h.kept 4 (by kernel_rfl)
          exact A_load (wanted_none rfl) 60 (.tmp 4) rfl g4 k4 60 (arr .i64 [p, q]) _ ((h.below.block g4 (blk_lt HZ4.out)).trans HZ4.out) Try.underlying60 rfl (by kernel_rfl) rfl rfl
        refine .cons (fun did a W h hd => ?_) ?_
        · have k5 : a.eval (.tmp 5) = .pointer (some ⟨g5, 0, none⟩) := h.kept 5 (by kernel_rfl)
          exact A_load (wanted_none rfl) 60 (.tmp 5) rfl g5 k5 60 (arr .i64 [r, t]) _ ((h.below.block g5 (blk_lt HZ5.out)).trans HZ5.out) Try.underlying60 rfl (by kernel_rfl) rfl rfl
        refine .cons (fun did a W h hd => ?_) ?_
        · have f0 : a.eval (.tmp 30) = (.agg (arr .i64 [p, q])) := h.fact 0 (by decide) (hd 0 (by kernel_rfl))
          have f1 : a.eval (.tmp 31) = (.agg (arr .i64 [r, t])) := h.fact 1 (by decide) (hd 1 (by kernel_rfl))
          exact A_nearr (wanted_none rfl) 60 3 2 .i64 (.tmp 30) (.tmp 31) 60 rfl Try.underlying60 Try.underlying3 (by kernel_rfl) (by kernel_rfl) [p, q] [r, t] f0 f1 rfl rfl false HB.out rfl rfl
        refine .cons (fun did a W h hd => ?_) ?_
        · have f2 : a.eval (.tmp 32) = (.bool true) := h.fact 2 (by decide) (hd 2 (by kernel_rfl))
          exact A_move (wanted_none rfl) _ rfl ((.bool true)) f2 rfl rfl
        refine .cons (fun did a W h hd => ?_) ?_
        · have k3 : a.eval (.tmp 3) = .pointer (some ⟨g3, 0, none⟩) := h.kept 3 (by kernel_rfl)
          have f3 : a.eval (.tmp 33) = (.bool true) := h.fact 3 (by decide) (hd 3 (by kernel_rfl))
          exact A_skip (wanted_no (j := 3) rfl rfl rfl f3 (by decide)) rfl rfl
        refine .cons (fun did a W h hd => ?_) ?_
        · have k4 : a.eval (.tmp 4) = .pointer (some ⟨g4, 0, none⟩) := h.kept 4 (by kernel_rfl)
          have f3 : a.eval (.tmp 33) = (.bool true) := h.fact 3 (by decide) (hd 3 (by kernel_rfl))
          exact A_skip (wanted_no (j := 3) rfl rfl rfl f3 (by decide)) rfl rfl
        refine .cons (fun did a W h hd => ?_) ?_
        · have f3 : a.eval (.tmp 33) = (.bool true) := h.fact 3 (by decide) (hd 3 (by kernel_rfl))
          have f5 : a.eval (.tmp 35) = undef := h.fact 5 (by decide) (hd 5 (by kernel_rfl))
          exact A_skip (wanted_no (j := 3) rfl rfl rfl f3 (by decide)) rfl rfl
        refine .cons (fun did a W h hd => ?_) ?_
        · have k4 : a.eval (.tmp 4) = .pointer (some ⟨g4, 0, none⟩) := h.kept 4 (by kernel_rfl)
          have f3 : a.eval (.tmp 33) = (.bool true) := h.fact 3 (by decide) (hd 3 (by kernel_rfl))
          exact A_skip (wanted_no (j := 3) rfl rfl rfl f3 (by decide)) rfl rfl
        refine .cons (fun did a W h hd => ?_) ?_
        · have f3 : a.eval (.tmp 33) = (.bool true) := h.fact 3 (by decide) (hd 3 (by kernel_rfl))
          have f7 : a.eval (.tmp 37) = undef := h.fact 7 (by decide) (hd 7 (by kernel_rfl))
          exact A_skip (wanted_no (j := 3) rfl rfl rfl f3 (by decide)) rfl rfl
        refine .cons (fun did a W h hd => ?_) ?_
        · have f3 : a.eval (.tmp 33) = (.bool true) := h.fact 3 (by decide) (hd 3 (by kernel_rfl))
          have f4 : a.eval (.tmp 34) = undef := h.fact 4 (by decide) (hd 4 (by kernel_rfl))
          have f6 : a.eval (.tmp 36) = undef := h.fact 6 (by decide) (hd 6 (by kernel_rfl))
          have f8 : a.eval (.tmp 38) = undef := h.fact 8 (by decide) (hd 8 (by kernel_rfl))
          exact A_skip (wanted_no (j := 3) rfl rfl rfl f3 (by decide)) rfl rfl
        refine .cons (fun did a W h hd => ?_) ?_
        · have k3 : a.eval (.tmp 3) = .pointer (some ⟨g3, 0, none⟩) := h.kept 3 (by kernel_rfl)
          have f3 : a.eval (.tmp 33) = (.bool true) := h.fact 3 (by decide) (hd 3 (by kernel_rfl))
          exact A_skip (wanted_no (j := 3) rfl rfl rfl f3 (by decide)) rfl rfl
        refine .cons (fun did a W h hd => ?_) ?_
        · have k5 : a.eval (.tmp 5) = .pointer (some ⟨g5, 0, none⟩) := h.kept 5 (by kernel_rfl)
          have f3 : a.eval (.tmp 33) = (.bool true) := h.fact 3 (by decide) (hd 3 (by kernel_rfl))
          exact A_skip (wanted_no (j := 3) rfl rfl rfl f3 (by decide)) rfl rfl
        refine .cons (fun did a W h hd => ?_) ?_
        · have f3 : a.eval (.tmp 33) = (.bool true) := h.fact 3 (by decide) (hd 3 (by kernel_rfl))
          have f11 : a.eval (.tmp 41) = undef := h.fact 11 (by decide) (hd 11 (by kernel_rfl))
          exact A_skip (wanted_no (j := 3) rfl rfl rfl f3 (by decide)) rfl rfl
        refine .cons (fun did a W h hd => ?_) ?_
        · have k5 : a.eval (.tmp 5) = .pointer (some ⟨g5, 0, none⟩) := h.kept 5 (by kernel_rfl)
          have f3 : a.eval (.tmp 33) = (.bool true) := h.fact 3 (by decide) (hd 3 (by kernel_rfl))
          exact A_skip (wanted_no (j := 3) rfl rfl rfl f3 (by decide)) rfl rfl
        refine .cons (fun did a W h hd => ?_) ?_
        · have f3 : a.eval (.tmp 33) = (.bool true) := h.fact 3 (by decide) (hd 3 (by kernel_rfl))
          have f13 : a.eval (.tmp 43) = undef := h.fact 13 (by decide) (hd 13 (by kernel_rfl))
          exact A_skip (wanted_no (j := 3) rfl rfl rfl f3 (by decide)) rfl rfl
        refine .cons (fun did a W h hd => ?_) ?_
        · have f3 : a.eval (.tmp 33) = (.bool true) := h.fact 3 (by decide) (hd 3 (by kernel_rfl))
          have f9 : a.eval (.tmp 39) = undef := h.fact 9 (by decide) (hd 9 (by kernel_rfl))
          have f10 : a.eval (.tmp 40) = undef := h.fact 10 (by decide) (hd 10 (by kernel_rfl))
          have f12 : a.eval (.tmp 42) = undef := h.fact 12 (by decide) (hd 12 (by kernel_rfl))
          have f14 : a.eval (.tmp 44) = undef := h.fact 14 (by decide) (hd 14 (by kernel_rfl))
          exact A_skip (wanted_no (j := 3) rfl rfl rfl f3 (by decide)) rfl rfl
        refine .cons (fun did a W h hd => ?_) ?_
        · have f3 : a.eval (.tmp 33) = (.bool true) := h.fact 3 (by decide) (hd 3 (by kernel_rfl))
          have f9 : a.eval (.tmp 39) = undef := h.fact 9 (by decide) (hd 9 (by kernel_rfl))
          have f15 : a.eval (.tmp 45) = undef := h.fact 15 (by decide) (hd 15 (by kernel_rfl))
          exact A_skip (wanted_no (j := 3) rfl rfl rfl f3 (by decide)) rfl rfl
        refine .cons (fun did a W h hd => ?_) ?_
        · have f3 : a.eval (.tmp 33) = (.bool true) := h.fact 3 (by decide) (hd 3 (by kernel_rfl))
          have f16 : a.eval (.tmp 46) = undef := h.fact 16 (by decide) (hd 16 (by kernel_rfl))
          exact A_pick (wanted_none rfl) _ _ _ rfl _ f3 (.bool true) (by rw [if_pos rfl]; rfl) rfl rfl
        refine .cons (fun did a W h hd => ?_) ?_
        · have f0 : a.eval (.tmp 30) = (.agg (arr .i64 [p, q])) := h.fact 0 (by decide) (hd 0 (by kernel_rfl))
          have f1 : a.eval (.tmp 31) = (.agg (arr .i64 [r, t])) := h.fact 1 (by decide) (hd 1 (by kernel_rfl))
          have f2 : a.eval (.tmp 32) = (.bool true) := h.fact 2 (by decide) (hd 2 (by kernel_rfl))
          have f3 : a.eval (.tmp 33) = (.bool true) := h.fact 3 (by decide) (hd 3 (by kernel_rfl))
          have f4 : a.eval (.tmp 34) = undef := h.fact 4 (by decide) (hd 4 (by kernel_rfl))
          have f5 : a.eval (.tmp 35) = undef := h.fact 5 (by decide) (hd 5 (by kernel_rfl))
          have f6 : a.eval (.tmp 36) = undef := h.fact 6 (by decide) (hd 6 (by kernel_rfl))
          have f7 : a.eval (.tmp 37) = undef := h.fact 7 (by decide) (hd 7 (by kernel_rfl))
          have f8 : a.eval (.tmp 38) = undef := h.fact 8 (by decide) (hd 8 (by kernel_rfl))
          have f9 : a.eval (.tmp 39) = undef := h.fact 9 (by decide) (hd 9 (by kernel_rfl))
          have f10 : a.eval (.tmp 40) = undef := h.fact 10 (by decide) (hd 10 (by kernel_rfl))
          have f11 : a.eval (.tmp 41) = undef := h.fact 11 (by decide) (hd 11 (by kernel_rfl))
          have f12 : a.eval (.tmp 42) = undef := h.fact 12 (by decide) (hd 12 (by kernel_rfl))
          have f13 : a.eval (.tmp 43) = undef := h.fact 13 (by decide) (hd 13 (by kernel_rfl))
          have f14 : a.eval (.tmp 44) = undef := h.fact 14 (by decide) (hd 14 (by kernel_rfl))
          have f15 : a.eval (.tmp 45) = undef := h.fact 15 (by decide) (hd 15 (by kernel_rfl))
          have f16 : a.eval (.tmp 46) = undef := h.fact 16 (by decide) (hd 16 (by kernel_rfl))
          have f17 : a.eval (.tmp 47) = (.bool true) := h.fact 17 (by decide) (hd 17 (by kernel_rfl))
          exact A_assign (wanted_none rfl) _ rfl ((.bool true)) f17 rfl rfl
        exact .nil
      case rfin11_7 =>
        intro a W h
        refine wpAny_done (by kernel_rfl) ?_ _
        have f0 : a.eval (.tmp 30) = (.agg (arr .i64 [p, q])) := h.fact 0 (by decide) trivial
        have f1 : a.eval (.tmp 31) = (.agg (arr .i64 [r, t])) := h.fact 1 (by decide) trivial
        have f2 : a.eval (.tmp 32) = (.bool true) := h.fact 2 (by decide) trivial
        have f3 : a.eval (.tmp 33) = (.bool true) := h.fact 3 (by decide) trivial
        have f4 : a.eval (.tmp 34) = undef := h.fact 4 (by decide) trivial
        have f5 : a.eval (.tmp 35) = undef := h.fact 5 (by decide) trivial
        have f6 : a.eval (.tmp 36) = undef := h.fact 6 (by decide) trivial
        have f7 : a.eval (.tmp 37) = undef := h.fact 7 (by decide) trivial
        have f8 : a.eval (.tmp 38) = undef := h.fact 8 (by decide) trivial
        have f9 : a.eval (.tmp 39) = undef := h.fact 9 (by decide) trivial
        have f10 : a.eval (.tmp 40) = undef := h.fact 10 (by decide) trivial
        have f11 : a.eval (.tmp 41) = undef := h.fact 11 (by decide) trivial
        have f12 : a.eval (.tmp 42) = undef := h.fact 12 (by decide) trivial
        have f13 : a.eval (.tmp 43) = undef := h.fact 13 (by decide) trivial
        have f14 : a.eval (.tmp 44) = undef := h.fact 14 (by decide) trivial
        have f15 : a.eval (.tmp 45) = undef := h.fact 15 (by decide) trivial
        have f16 : a.eval (.tmp 46) = undef := h.fact 16 (by decide) trivial
        have f17 : a.eval (.tmp 47) = (.bool true) := h.fact 17 (by decide) trivial
        have f18 : a.eval (.tmp 6) = (.bool true) := h.fact 18 (by decide) trivial
        have ha : a = { tmps := #[(.agg (arr .u8 (sec))), (.agg (arr .i64 [p, q])), (.agg (arr .i64 [r, t])), .pointer (some ⟨g3, 0, none⟩), .pointer (some ⟨g4, 0, none⟩), .pointer (some ⟨g5, 0, none⟩), (.bool true), (.slice A4_ (labelL { data := #[112, 97, 99, 107, 101, 116] } [p, q]).length c4_), (.slice A5_ (labelL { data := #[112, 97, 99, 107, 101, 116] } [r, t]).length c5_), (.slice A9 (labelL { data := #[100, 101, 118, 105, 99, 101] } [p, q]).length c9), .bool true, .bool false, .slice (some ⟨g4, 0, none⟩) 2 2, (.slice A1_ (labelL { data := #[112, 97, 99, 107, 101, 116] } [p, q]).length c1_), .slice (some ⟨g5, 0, none⟩) 2 2, (.slice A3_ (labelL { data := #[112, 97, 99, 107, 101, 116] } [r, t]).length c3_), .slice (some ⟨g4, 0, none⟩) 2 2, (.slice A9 (labelL { data := #[100, 101, 118, 105, 99, 101] } [p, q]).length c9), (.slice A0_v (labelL { data := #[112, 97, 99, 107, 101, 116] } [p, q]).length c0_v), (.slice A1_v (labelL { data := #[112, 97, 99, 107, 101, 116] } [r, t]).length c1_v), .bool false, (.agg (arr .i64 [p, q])), (.agg (arr .i64 [r, t])), .bool false, .bool false, .bool false, (.slice A8_v (labelL { data := #[112, 97, 99, 107, 101, 116] } [p, q]).length c8_v), (.slice A9_v (labelL { data := #[100, 101, 118, 105, 99, 101] } [p, q]).length c9_v), .bool false, .bool false, (.agg (arr .i64 [p, q])), (.agg (arr .i64 [r, t])), (.bool true), (.bool true), undef, undef, undef, undef, undef, undef, undef, undef, undef, undef, undef, undef, undef, (.bool true)], defers := [] } := frame_ext h.size h.defers (.cons (h.kept 0 (by kernel_rfl)) (.cons (h.kept 1 (by kernel_rfl)) (.cons (h.kept 2 (by kernel_rfl)) (.cons (h.kept 3 (by kernel_rfl)) (.cons (h.kept 4 (by kernel_rfl)) (.cons (h.kept 5 (by kernel_rfl)) (.cons f18 (.cons (h.kept 7 (by kernel_rfl)) (.cons (h.kept 8 (by kernel_rfl)) (.cons (h.kept 9 (by kernel_rfl)) (.cons (h.kept 10 (by kernel_rfl)) (.cons (h.kept 11 (by kernel_rfl)) (.cons (h.kept 12 (by kernel_rfl)) (.cons (h.kept 13 (by kernel_rfl)) (.cons (h.kept 14 (by kernel_rfl)) (.cons (h.kept 15 (by kernel_rfl)) (.cons (h.kept 16 (by kernel_rfl)) (.cons (h.kept 17 (by kernel_rfl)) (.cons (h.kept 18 (by kernel_rfl)) (.cons (h.kept 19 (by kernel_rfl)) (.cons (h.kept 20 (by kernel_rfl)) (.cons (h.kept 21 (by kernel_rfl)) (.cons (h.kept 22 (by kernel_rfl)) (.cons (h.kept 23 (by kernel_rfl)) (.cons (h.kept 24 (by kernel_rfl)) (.cons (h.kept 25 (by kernel_rfl)) (.cons (h.kept 26 (by kernel_rfl)) (.cons (h.kept 27 (by kernel_rfl)) (.cons (h.kept 28 (by kernel_rfl)) (.cons (h.kept 29 (by kernel_rfl)) (.cons f0 (.cons f1 (.cons f2 (.cons f3 (.cons f4 (.cons f5 (.cons f6 (.cons f7 (.cons f8 (.cons f9 (.cons f10 (.cons f11 (.cons f12 (.cons f13 (.cons f14 (.cons f15 (.cons f16 (.cons f17 (.nil)))))))))))))))))))))))))))))))))))))))))))))))))
        have hbel := h.below
        subst ha
        clear h
        go_wp2
        go_ret
        exact ⟨rfl, (below_drew HBE7.out).trans (hbel.mono HBE7.out.size)⟩
theorem KeysApart_calls (sec : List Int) (two : List Int) (other : List Int) (w : World) (hsl : sec.length = 32) (hBs : Bytes sec) (h2 : two.length = 2) (hw2 : ∀ x ∈ two, (Lit.int .i64 x).wf = true) (h3 : other.length = 2) (hw3 : ∀ x ∈ other, (Lit.int .i64 x).wf = true) :
    Calls Try.prog 11 #[.agg (arr .u8 sec), .agg (arr .i64 two), .agg (arr .i64 other)] w fun e w' => e = .returned (.bool true) ∧ Below w.heap.size w w' := by
  match two, other, h2, h3 with
  | [p, q], [r, t], _, _ =>
    by_cases he : [p, q] = [r, t]
    · simp only [List.cons.injEq, and_true] at he
      obtain ⟨rfl, rfl⟩ := he
      exact KeysApart_same sec p q w hsl hBs
    · refine KeysApart_else sec p q r t w hsl hBs (decide_eq_false he) (decide_eq_false ?_)
      rw [label2_inj _ (i64_of (hw2 p (by simp))) (i64_of (hw2 q (by simp))) (i64_of (hw3 r (by simp))) (i64_of (hw3 t (by simp)))]
      exact he
end Go.Proofs.Ythpkbamhpmgffaa.Sha

