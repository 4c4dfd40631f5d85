/- Hand-written walks and plain lemmas: what each Go function comes to (KeyI). No condition. -/
import Derived.Test.YthpkbamhpmgffaaKeyOne
namespace Go.Proofs.Ythpkbamhpmgffaa.Sha
open Go.AnyFacts Go.RowKit Go.Proofs.YthpkbamhpmgffaaW.Hand Go.Proofs.YthpkbamhpmgffaaW.PrintWords Go.Proofs.YthpkbamhpmgffaaW.PrintLast Go.Proofs.YthpkbamhpmgffaaW.PrintMore Go.Proofs.Ythpkbamhpmgffaa.PF02 Go.Proofs.Ythpkbamhpmgffaa.Base Go.Proofs.Ythpkbamhpmgffaa.LF02
set_option linter.unusedVariables false
set_option linter.unusedSimpArgs false
set_option maxHeartbeats 8000000 in
set_option maxRecDepth 100000 in
theorem KeysKnown_calls (sec : List Int) (x : Int) (tag : List Int) (w : World) (hsl : sec.length = 32) (hBs : Bytes sec) (hx : -9223372036854775808 ≤ x ∧ x ≤ 9223372036854775807) (htl : tag.length = 32) (hBt : Bytes tag) :
    Calls Try.prog 10 #[.agg (arr .u8 sec), .int .i64 x, .agg (arr .u8 tag)] w fun e w' => e = .returned (.bool true) ∧ Below w.heap.size w w' := by
  obtain ⟨r, hr⟩ : ∃ r, decide (keyL sec { data := #[116, 105, 99, 107, 101, 116] } [x] = tag) = r := ⟨_, rfl⟩
  have HR := Aside0.mk hr
  have HBS := Aside0.mk hBs
  have HSL := Aside0.mk hsl
  have HBT := Aside0.mk hBt
  have HTL := Aside0.mk htl
  clear hr hBs hsl hBt htl
  go_enter Try.func10, Try.ntmps10
  go_wp2_with (first | ((with_reducible refine gate_dst (N := 3) rfl ?_); refine L_box rfl 38 (.tmp 0) rfl ((.agg (arr .u8 (sec)))) rfl ?_; intro g3 w1 hb3 hg3 hs3 hl3; have HB3 := Aside0.mk hb3; clear hb3; have HG3 := Aside0.mk hg3; clear hg3; have HS3 := Aside0.mk hs3; clear hs3; have HL3 := Aside0.mk hl3; clear hl3) | ((with_reducible refine gate_dst (N := 5) rfl ?_); refine L_box rfl 38 (.tmp 2) rfl ((.agg (arr .u8 (tag)))) rfl ?_; intro g5 w2 hb5 hg5 hs5 hl5; have HB5 := Aside0.mk hb5; clear hb5; have HG5 := Aside0.mk hg5; clear hg5; have HS5 := Aside0.mk hs5; clear hs5; have HL5 := Aside0.mk hl5; clear hl5) | (go_at_call 33; refine (awake05_calls _).mono ?_; rintro e wa ⟨rfl, hba⟩; have HBA := Aside0.mk hba; clear hba))
  have HX3 := Aside0.mk ((HBA.out.block g3 (Nat.lt_of_lt_of_le (blk_lt HB3.out) HL5.out.size)).trans ((HL5.out.block g3 (blk_lt HB3.out)).trans HB3.out))
  have HX5 := Aside0.mk ((HBA.out.block g5 (blk_lt HB5.out)).trans HB5.out)
  have HBE := Aside0.mk (below_step (below_step HL3.out HL5.out) HBA.out)
  clear HB3 HG3 HS3 HL3 HB5 HG5 HS5 HL5 HBA
  refine region_facts (by kernel_rfl) (getS [fun v _ => v = (.agg (arr .u8 (sec))), fun v _ => v = (.int .i64 x), fun v _ => v = (.agg (arr .u8 (tag))), fun v _ => v = (.bool r), fun v _ => v = (.agg (arr .u8 (tag))), fun v _ => v = (.agg (arr .u8 (sec))), fun v _ => v = (.int .i64 x), fun v w => ∃ g, v = .slice (some ⟨g, 0, none⟩) 1 1 ∧ w.heap[g]? = some (.cells (arr .i64 [x]) 3 (0, 0)), fun v _ => v = (.agg (arr .u8 (keyL sec { data := #[116, 105, 99, 107, 101, 116] } [x]))), fun v _ => v = (.bool r), fun v _ => v = (.bool true), fun v _ => v = (.bool true)]) (fun _ => false) 12 (by kernel_rfl) (AllStab.spec (.cons (stab_val _) (.cons (stab_val _) (.cons (stab_val _) (.cons (stab_val _) (.cons (stab_val _) (.cons (stab_val _) (.cons (stab_val _) (.cons (stab_row _ _ _ _ _) (.cons (stab_val _) (.cons (stab_val _) (.cons (stab_val _) (.cons (stab_val _) .nil))))))))))))) (dst_of (by kernel_rfl)) (EachOp.of ?rop10_3) ?rfin10_3
  case rop10_3 =>
    refine .cons (fun did a W h hd => ?_) ?_
    · have k3 : a.eval (.tmp 3) = .pointer (some ⟨g3, 0, none⟩) := h.kept 3 (by kernel_rfl)
      exact A_load (wanted_none rfl) 38 (.tmp 3) rfl g3 k3 38 (arr .u8 sec) _ ((h.below.block g3 (blk_lt HX3.out)).trans HX3.out) Try.underlying38 rfl (by rw [arr_size, HSL.out]; kernel_rfl) rfl rfl
    refine .cons (fun did a W h hd => ?_) ?_
    · have k1 : a.eval (.tmp 1) = .int .i64 x := h.kept 1 (by kernel_rfl)
      exact A_move (wanted_none rfl) _ rfl ((.int .i64 x)) k1 rfl rfl
    refine .cons (fun did a W h hd => ?_) ?_
    · have k5 : a.eval (.tmp 5) = .pointer (some ⟨g5, 0, none⟩) := h.kept 5 (by kernel_rfl)
      exact A_load (wanted_none rfl) 38 (.tmp 5) rfl g5 k5 38 (arr .u8 tag) _ ((h.below.block g5 (blk_lt HX5.out)).trans HX5.out) Try.underlying38 rfl (by rw [arr_size, HTL.out]; kernel_rfl) rfl rfl
    refine .cons (fun did a W h hd => ?_) ?_
    · have f0 : a.eval (.tmp 9) = (.agg (arr .u8 (sec))) := h.fact 0 (by decide) (hd 0 (by kernel_rfl))
      have f1 : a.eval (.tmp 10) = (.int .i64 x) := h.fact 1 (by decide) (hd 1 (by kernel_rfl))
      have f2 : a.eval (.tmp 11) = (.agg (arr .u8 (tag))) := h.fact 2 (by decide) (hd 2 (by kernel_rfl))
      exact A_call (wanted_none rfl) 34 #[.tmp 9, .tmp 10, .tmp 11] #[38, 3, 38] rfl #[(.agg (arr .u8 (sec))), .int .i64 x, (.agg (arr .u8 (tag)))] (by simp only [List.map_toArray, List.map_cons, List.map_nil, f0, f1, f2] <;> rfl) (by kernel_rfl) ((Known_calls sec x tag r _ HSL.out HBS.out HTL.out HBT.out HR.out).mono fun e w' hh => ⟨_, hh.1, hh.2, rfl⟩) rfl
    refine .cons (fun did a W h hd => ?_) ?_
    · have k5 : a.eval (.tmp 5) = .pointer (some ⟨g5, 0, none⟩) := h.kept 5 (by kernel_rfl)
      exact A_load (wanted_none rfl) 38 (.tmp 5) rfl g5 k5 38 (arr .u8 tag) _ ((h.below.block g5 (blk_lt HX5.out)).trans HX5.out) Try.underlying38 rfl (by rw [arr_size, HTL.out]; kernel_rfl) rfl rfl
    refine .cons (fun did a W h hd => ?_) ?_
    · have k3 : a.eval (.tmp 3) = .pointer (some ⟨g3, 0, none⟩) := h.kept 3 (by kernel_rfl)
      exact A_load (wanted_none rfl) 38 (.tmp 3) rfl g3 k3 38 (arr .u8 sec) _ ((h.below.block g3 (blk_lt HX3.out)).trans HX3.out) Try.underlying38 rfl (by rw [arr_size, HSL.out]; kernel_rfl) rfl rfl
    refine .cons (fun did a W h hd => ?_) ?_
    · have k1 : a.eval (.tmp 1) = .int .i64 x := h.kept 1 (by kernel_rfl)
      exact A_move (wanted_none rfl) _ rfl ((.int .i64 x)) k1 rfl rfl
    refine .cons (fun did a W h hd => ?_) ?_
    · have f6 : a.eval (.tmp 15) = (.int .i64 x) := h.fact 6 (by decide) (hd 6 (by kernel_rfl))
      exact A_bslice (wanted_none rfl) 59 3 1 _ rfl Try.underlying59 [(0, .int .i64 x)] (by simp only [List.map_toArray, List.map_cons, List.map_nil, f6] <;> rfl) (arr .i64 [x]) (by kernel_rfl) (fun g w' h1 h2 => ⟨g, rfl, h1⟩)
    refine .cons (fun did a W h hd => ?_) ?_
    · have f3 : a.eval (.tmp 12) = (.bool r) := h.fact 3 (by decide) (hd 3 (by kernel_rfl))
      have f5 : a.eval (.tmp 14) = (.agg (arr .u8 (sec))) := h.fact 5 (by decide) (hd 5 (by kernel_rfl))
      obtain ⟨g7_, f7, b7⟩ : ∃ g, a.eval (.tmp 16) = .slice (some ⟨g, 0, none⟩) 1 1 ∧ W.heap[g]? = some (.cells (arr .i64 [x]) 3 (0, 0)) := h.fact 7 (by decide) (hd 7 (by kernel_rfl))
      exact A_call (wanted_none rfl) 35 #[.tmp 14, .const (.string { data := #[116, 105, 99, 107, 101, 116] }), .tmp 16] #[38, 9, 59] rfl #[(.agg (arr .u8 (sec))), .string { data := #[116, 105, 99, 107, 101, 116] }, .slice (some ⟨g7_, 0, none⟩) 1 1] (by simp only [List.map_toArray, List.map_cons, List.map_nil, f5, f7] <;> rfl) (by kernel_rfl) ((refKey_calls sec { data := #[116, 105, 99, 107, 101, 116] } (some ⟨g7_, 0, none⟩) 1 [x] _ HSL.out HBS.out (by decide) (C_arr (xs := [x]) b7 (by simp)) (by simp) (by simp)).mono fun e w' hh => ⟨_, hh.1, hh.2, rfl⟩) rfl
    refine .cons (fun did a W h hd => ?_) ?_
    · have f4 : a.eval (.tmp 13) = (.agg (arr .u8 (tag))) := h.fact 4 (by decide) (hd 4 (by kernel_rfl))
      have f8 : a.eval (.tmp 17) = (.agg (arr .u8 (keyL sec { data := #[116, 105, 99, 107, 101, 116] } [x]))) := h.fact 8 (by decide) (hd 8 (by kernel_rfl))
      exact A_eqarr (wanted_none rfl) 38 5 32 .u8 (.tmp 13) (.tmp 17) 38 rfl Try.underlying38 Try.underlying5 (by kernel_rfl) (by kernel_rfl) (tag) (keyL sec { data := #[116, 105, 99, 107, 101, 116] } [x]) f4 f8 HTL.out (keyL_length _ _ _) r (by rw [← HR.out, decide_eq_decide]; exact eq_comm) rfl rfl
    refine .cons (fun did a W h hd => ?_) ?_
    · have f3 : a.eval (.tmp 12) = (.bool r) := h.fact 3 (by decide) (hd 3 (by kernel_rfl))
      have f9 : a.eval (.tmp 18) = (.bool r) := h.fact 9 (by decide) (hd 9 (by kernel_rfl))
      exact A_bin (wanted_none rfl) _ _ _ _ _ rfl _ _ f3 f9 ((.bool true)) (by simp [eqGuard, binOp, Op.equal, Op.maxDepth, go_sem, Try.underlying4]) rfl rfl
    refine .cons (fun did a W h hd => ?_) ?_
    · have f0 : a.eval (.tmp 9) = (.agg (arr .u8 (sec))) := h.fact 0 (by decide) (hd 0 (by kernel_rfl))
      have f1 : a.eval (.tmp 10) = (.int .i64 x) := h.fact 1 (by decide) (hd 1 (by kernel_rfl))
      have f2 : a.eval (.tmp 11) = (.agg (arr .u8 (tag))) := h.fact 2 (by decide) (hd 2 (by kernel_rfl))
      have f3 : a.eval (.tmp 12) = (.bool r) := h.fact 3 (by decide) (hd 3 (by kernel_rfl))
      have f4 : a.eval (.tmp 13) = (.agg (arr .u8 (tag))) := h.fact 4 (by decide) (hd 4 (by kernel_rfl))
      have f5 : a.eval (.tmp 14) = (.agg (arr .u8 (sec))) := h.fact 5 (by decide) (hd 5 (by kernel_rfl))
      have f6 : a.eval (.tmp 15) = (.int .i64 x) := h.fact 6 (by decide) (hd 6 (by kernel_rfl))
      obtain ⟨g7_, f7, b7⟩ : ∃ g, a.eval (.tmp 16) = .slice (some ⟨g, 0, none⟩) 1 1 ∧ W.heap[g]? = some (.cells (arr .i64 [x]) 3 (0, 0)) := h.fact 7 (by decide) (hd 7 (by kernel_rfl))
      have f8 : a.eval (.tmp 17) = (.agg (arr .u8 (keyL sec { data := #[116, 105, 99, 107, 101, 116] } [x]))) := h.fact 8 (by decide) (hd 8 (by kernel_rfl))
      have f9 : a.eval (.tmp 18) = (.bool r) := h.fact 9 (by decide) (hd 9 (by kernel_rfl))
      have f10 : a.eval (.tmp 19) = (.bool true) := h.fact 10 (by decide) (hd 10 (by kernel_rfl))
      exact A_assign (wanted_none rfl) _ rfl ((.bool true)) f10 rfl rfl
    exact .nil
  case rfin10_3 =>
    intro a W h
    refine wpAny_done (by kernel_rfl) ?_ _
    have f0 : a.eval (.tmp 9) = (.agg (arr .u8 (sec))) := h.fact 0 (by decide) trivial
    have f1 : a.eval (.tmp 10) = (.int .i64 x) := h.fact 1 (by decide) trivial
    have f2 : a.eval (.tmp 11) = (.agg (arr .u8 (tag))) := h.fact 2 (by decide) trivial
    have f3 : a.eval (.tmp 12) = (.bool r) := h.fact 3 (by decide) trivial
    have f4 : a.eval (.tmp 13) = (.agg (arr .u8 (tag))) := h.fact 4 (by decide) trivial
    have f5 : a.eval (.tmp 14) = (.agg (arr .u8 (sec))) := h.fact 5 (by decide) trivial
    have f6 : a.eval (.tmp 15) = (.int .i64 x) := h.fact 6 (by decide) trivial
    obtain ⟨g7_, f7, b7⟩ : ∃ g, a.eval (.tmp 16) = .slice (some ⟨g, 0, none⟩) 1 1 ∧ W.heap[g]? = some (.cells (arr .i64 [x]) 3 (0, 0)) := h.fact 7 (by decide) trivial
    have f8 : a.eval (.tmp 17) = (.agg (arr .u8 (keyL sec { data := #[116, 105, 99, 107, 101, 116] } [x]))) := h.fact 8 (by decide) trivial
    have f9 : a.eval (.tmp 18) = (.bool r) := h.fact 9 (by decide) trivial
    have f10 : a.eval (.tmp 19) = (.bool true) := h.fact 10 (by decide) trivial
    have f11 : a.eval (.tmp 6) = (.bool true) := h.fact 11 (by decide) trivial
    have ha : a = { tmps := #[(.agg (arr .u8 (sec))), .int .i64 x, (.agg (arr .u8 (tag))), .pointer (some ⟨g3, 0, none⟩), undef, .pointer (some ⟨g5, 0, none⟩), (.bool true), .bool true, .bool false, (.agg (arr .u8 (sec))), (.int .i64 x), (.agg (arr .u8 (tag))), (.bool r), (.agg (arr .u8 (tag))), (.agg (arr .u8 (sec))), (.int .i64 x), Value.slice (some ⟨g7_, 0, none⟩) 1 1, (.agg (arr .u8 (keyL sec { data := #[116, 105, 99, 107, 101, 116] } [x]))), (.bool r), (.bool true)], defers := [] } := frame_ext h.size h.defers (.cons (h.kept 0 (by kernel_rfl)) (.cons (h.kept 1 (by kernel_rfl)) (.cons (h.kept 2 (by kernel_rfl)) (.cons (h.kept 3 (by kernel_rfl)) (.cons (h.kept 4 (by kernel_rfl)) (.cons (h.kept 5 (by kernel_rfl)) (.cons f11 (.cons (h.kept 7 (by kernel_rfl)) (.cons (h.kept 8 (by kernel_rfl)) (.cons f0 (.cons f1 (.cons f2 (.cons f3 (.cons f4 (.cons f5 (.cons f6 (.cons f7 (.cons f8 (.cons f9 (.cons f10 (.nil)))))))))))))))))))))
    have hbel := h.below
    subst ha
    clear h
    go_wp2
    go_ret
    exact ⟨rfl, (below_drew HBE.out).trans (hbel.mono HBE.out.size)⟩
set_option maxHeartbeats 8000000 in
set_option maxRecDepth 100000 in
theorem KeysDerive_calls (sec : List Int) (x : Int) (y : Int) (w : World) (hsl : sec.length = 32) (hBs : Bytes sec) (hx : -9223372036854775808 ≤ x ∧ x ≤ 9223372036854775807) (hy : -9223372036854775808 ≤ y ∧ y ≤ 9223372036854775807) :
    Calls Try.prog 12 #[.agg (arr .u8 sec), .int .i64 x, .int .i64 y] w fun e w' => e = .returned (.bool true) ∧ Below w.heap.size w w' := by
  have HBS := Aside0.mk hBs
  have HSL := Aside0.mk hsl
  clear hBs hsl
  go_enter Try.func12, Try.ntmps12
  go_wp2_with (first | ((with_reducible refine gate_dst (N := 3) rfl ?_); refine L_box rfl 38 (.tmp 0) rfl ((.agg (arr .u8 (sec)))) rfl ?_; intro g3 w1 hb3 hg3 hs3 hl3; have HB3 := Aside0.mk hb3; clear hb3; have HG3 := Aside0.mk hg3; clear hg3; have HS3 := Aside0.mk hs3; clear hs3; have HL3 := Aside0.mk hl3; clear hl3) | (go_at_call 33; refine (awake05_calls _).mono ?_; rintro e wa ⟨rfl, hba⟩; have HBA := Aside0.mk hba; clear hba))
  have HX3 := Aside0.mk ((HBA.out.block g3 (blk_lt HB3.out)).trans HB3.out)
  have HBE := Aside0.mk (below_step HL3.out HBA.out)
  clear HB3 HG3 HS3 HL3 HBA
  refine region_facts (by kernel_rfl) (getS [fun v _ => v = (.agg (arr .u8 (sec))), fun v _ => v = (.int .i64 x), fun v _ => v = (.int .i64 y), fun v _ => v = (.agg (arr .u8 (keyL sec { data := #[112, 97, 99, 107, 101, 116] } [x, y]))), fun v _ => v = (.agg (arr .u8 (sec))), fun v _ => v = (.int .i64 x), fun v _ => v = (.int .i64 y), fun v w => ∃ g, v = .slice (some ⟨g, 0, none⟩) 2 2 ∧ w.heap[g]? = some (.cells (arr .i64 [x, y]) 3 (0, 0)), fun v _ => v = (.agg (arr .u8 (keyL sec { data := #[112, 97, 99, 107, 101, 116] } [x, y]))), fun v _ => v = (.bool true), fun v _ => v = (.bool true), fun v _ => v = (.agg (arr .u8 (sec))), fun v _ => v = (.int .i64 x), fun v _ => v = (.agg (arr .u8 (keyL sec { data := #[116, 105, 99, 107, 101, 116] } [x]))), fun v _ => v = (.agg (arr .u8 (sec))), fun v _ => v = (.int .i64 x), fun v w => ∃ g, v = .slice (some ⟨g, 0, none⟩) 1 1 ∧ w.heap[g]? = some (.cells (arr .i64 [x]) 3 (0, 0)), fun v _ => v = (.agg (arr .u8 (keyL sec { data := #[116, 105, 99, 107, 101, 116] } [x]))), fun v _ => v = (.bool true), fun v _ => v = (.bool true), fun v _ => v = (.bool true), fun v _ => v = (.agg (arr .u8 (sec))), fun v _ => v = (.int .i64 x), fun v _ => v = (.int .i64 y), fun v _ => v = (.agg (arr .u8 (keyL sec { data := #[100, 101, 118, 105, 99, 101] } [x, y]))), fun v _ => v = (.agg (arr .u8 (sec))), fun v _ => v = (.int .i64 x), fun v _ => v = (.int .i64 y), fun v w => ∃ g, v = .slice (some ⟨g, 0, none⟩) 2 2 ∧ w.heap[g]? = some (.cells (arr .i64 [x, y]) 3 (0, 0)), fun v _ => v = (.agg (arr .u8 (keyL sec { data := #[100, 101, 118, 105, 99, 101] } [x, y]))), fun v _ => v = (.bool true), fun v _ => v = (.bool true), fun v _ => v = (.bool true)]) (fun _ => false) 33 (by kernel_rfl) (AllStab.spec (.cons (stab_val _) (.cons (stab_val _) (.cons (stab_val _) (.cons (stab_val _) (.cons (stab_val _) (.cons (stab_val _) (.cons (stab_val _) (.cons (stab_row _ _ _ _ _) (.cons (stab_val _) (.cons (stab_val _) (.cons (stab_val _) (.cons (stab_val _) (.cons (stab_val _) (.cons (stab_val _) (.cons (stab_val _) (.cons (stab_val _) (.cons (stab_row _ _ _ _ _) (.cons (stab_val _) (.cons (stab_val _) (.cons (stab_val _) (.cons (stab_val _) (.cons (stab_val _) (.cons (stab_val _) (.cons (stab_val _) (.cons (stab_val _) (.cons (stab_val _) (.cons (stab_val _) (.cons (stab_val _) (.cons (stab_row _ _ _ _ _) (.cons (stab_val _) (.cons (stab_val _) (.cons (stab_val _) (.cons (stab_val _) .nil)))))))))))))))))))))))))))))))))) (dst_of (by kernel_rfl)) (EachOp.of ?rop12_3) ?rfin12_3
  case rop12_3 =>
    refine .cons (fun did a W h hd => ?_) ?_
    · have k3 : a.eval (.tmp 3) = .pointer (some ⟨g3, 0, none⟩) := h.kept 3 (by kernel_rfl)
      exact A_load (wanted_none rfl) 38 (.tmp 3) rfl g3 k3 38 (arr .u8 sec) _ ((h.below.block g3 (blk_lt HX3.out)).trans HX3.out) Try.underlying38 rfl (by rw [arr_size, HSL.out]; kernel_rfl) rfl rfl
    refine .cons (fun did a W h hd => ?_) ?_
    · have k1 : a.eval (.tmp 1) = .int .i64 x := h.kept 1 (by kernel_rfl)
      exact A_move (wanted_none rfl) _ rfl ((.int .i64 x)) k1 rfl rfl
    refine .cons (fun did a W h hd => ?_) ?_
    · have k2 : a.eval (.tmp 2) = .int .i64 y := h.kept 2 (by kernel_rfl)
      exact A_move (wanted_none rfl) _ rfl ((.int .i64 y)) k2 rfl rfl
    refine .cons (fun did a W h hd => ?_) ?_
    · have f0 : a.eval (.tmp 9) = (.agg (arr .u8 (sec))) := h.fact 0 (by decide) (hd 0 (by kernel_rfl))
      have f1 : a.eval (.tmp 10) = (.int .i64 x) := h.fact 1 (by decide) (hd 1 (by kernel_rfl))
      have f2 : a.eval (.tmp 11) = (.int .i64 y) := h.fact 2 (by decide) (hd 2 (by kernel_rfl))
      exact A_call (wanted_none rfl) 37 #[.tmp 9, .tmp 10, .tmp 11] #[38, 3, 3] rfl #[(.agg (arr .u8 (sec))), .int .i64 x, .int .i64 y] (by simp only [List.map_toArray, List.map_cons, List.map_nil, f0, f1, f2] <;> rfl) (by kernel_rfl) ((Packet_calls sec x  y _ HSL.out HBS.out).mono fun e w' hh => ⟨_, hh.1, hh.2, rfl⟩) rfl
    refine .cons (fun did a W h hd => ?_) ?_
    · have k3 : a.eval (.tmp 3) = .pointer (some ⟨g3, 0, none⟩) := h.kept 3 (by kernel_rfl)
      exact A_load (wanted_none rfl) 38 (.tmp 3) rfl g3 k3 38 (arr .u8 sec) _ ((h.below.block g3 (blk_lt HX3.out)).trans HX3.out) Try.underlying38 rfl (by rw [arr_size, HSL.out]; kernel_rfl) rfl rfl
    refine .cons (fun did a W h hd => ?_) ?_
    · have k1 : a.eval (.tmp 1) = .int .i64 x := h.kept 1 (by kernel_rfl)
      exact A_move (wanted_none rfl) _ rfl ((.int .i64 x)) k1 rfl rfl
    refine .cons (fun did a W h hd => ?_) ?_
    · have k2 : a.eval (.tmp 2) = .int .i64 y := h.kept 2 (by kernel_rfl)
      exact A_move (wanted_none rfl) _ rfl ((.int .i64 y)) k2 rfl rfl
    refine .cons (fun did a W h hd => ?_) ?_
    · have f5 : a.eval (.tmp 14) = (.int .i64 x) := h.fact 5 (by decide) (hd 5 (by kernel_rfl))
      have f6 : a.eval (.tmp 15) = (.int .i64 y) := h.fact 6 (by decide) (hd 6 (by kernel_rfl))
      exact A_bslice (wanted_none rfl) 59 3 2 _ rfl Try.underlying59 [(0, .int .i64 x), (1, .int .i64 y)] (by simp only [List.map_toArray, List.map_cons, List.map_nil, f5, f6] <;> rfl) (arr .i64 [x, y]) (by kernel_rfl) (fun g w' h1 h2 => ⟨g, rfl, h1⟩)
    refine .cons (fun did a W h hd => ?_) ?_
    · have f3 : a.eval (.tmp 12) = (.agg (arr .u8 (keyL sec { data := #[112, 97, 99, 107, 101, 116] } [x, y]))) := h.fact 3 (by decide) (hd 3 (by kernel_rfl))
      have f4 : a.eval (.tmp 13) = (.agg (arr .u8 (sec))) := h.fact 4 (by decide) (hd 4 (by kernel_rfl))
      obtain ⟨g7_, f7, b7⟩ : ∃ g, a.eval (.tmp 16) = .slice (some ⟨g, 0, none⟩) 2 2 ∧ W.heap[g]? = some (.cells (arr .i64 [x, y]) 3 (0, 0)) := h.fact 7 (by decide) (hd 7 (by kernel_rfl))
      exact A_call (wanted_none rfl) 35 #[.tmp 13, .const (.string { data := #[112, 97, 99, 107, 101, 116] }), .tmp 16] #[38, 9, 59] rfl #[(.agg (arr .u8 (sec))), .string { data := #[112, 97, 99, 107, 101, 116] }, .slice (some ⟨g7_, 0, none⟩) 2 2] (by simp only [List.map_toArray, List.map_cons, List.map_nil, f4, f7] <;> rfl) (by kernel_rfl) ((refKey_calls sec { data := #[112, 97, 99, 107, 101, 116] } (some ⟨g7_, 0, none⟩) 2 [x, y] _ HSL.out HBS.out (by decide) (C_arr (xs := [x, y]) b7 (by simp)) (by simp) (by simp)).mono fun e w' hh => ⟨_, hh.1, hh.2, rfl⟩) rfl
    refine .cons (fun did a W h hd => ?_) ?_
    · have f3 : a.eval (.tmp 12) = (.agg (arr .u8 (keyL sec { data := #[112, 97, 99, 107, 101, 116] } [x, y]))) := h.fact 3 (by decide) (hd 3 (by kernel_rfl))
      have f8 : a.eval (.tmp 17) = (.agg (arr .u8 (keyL sec { data := #[112, 97, 99, 107, 101, 116] } [x, y]))) := h.fact 8 (by decide) (hd 8 (by kernel_rfl))
      exact A_eqarr (wanted_none rfl) 38 5 32 .u8 (.tmp 12) (.tmp 17) 38 rfl Try.underlying38 Try.underlying5 (by kernel_rfl) (by kernel_rfl) (keyL sec { data := #[112, 97, 99, 107, 101, 116] } [x, y]) (keyL sec { data := #[112, 97, 99, 107, 101, 116] } [x, y]) f3 f8 (keyL_length _ _ _) (keyL_length _ _ _) true (decide_eq_true rfl) rfl rfl
    refine .cons (fun did a W h hd => ?_) ?_
    · have f8 : a.eval (.tmp 17) = (.agg (arr .u8 (keyL sec { data := #[112, 97, 99, 107, 101, 116] } [x, y]))) := h.fact 8 (by decide) (hd 8 (by kernel_rfl))
      have f9 : a.eval (.tmp 18) = (.bool true) := h.fact 9 (by decide) (hd 9 (by kernel_rfl))
      exact A_move (wanted_none rfl) _ rfl ((.bool true)) f9 rfl rfl
    refine .cons (fun did a W h hd => ?_) ?_
    · have k3 : a.eval (.tmp 3) = .pointer (some ⟨g3, 0, none⟩) := h.kept 3 (by kernel_rfl)
      have f10 : a.eval (.tmp 19) = (.bool true) := h.fact 10 (by decide) (hd 10 (by kernel_rfl))
      exact A_load (wanted_yes (j := 10) rfl rfl rfl f10) 38 (.tmp 3) rfl g3 k3 38 (arr .u8 sec) _ ((h.below.block g3 (blk_lt HX3.out)).trans HX3.out) Try.underlying38 rfl (by rw [arr_size, HSL.out]; kernel_rfl) rfl rfl
    refine .cons (fun did a W h hd => ?_) ?_
    · have k1 : a.eval (.tmp 1) = .int .i64 x := h.kept 1 (by kernel_rfl)
      have f10 : a.eval (.tmp 19) = (.bool true) := h.fact 10 (by decide) (hd 10 (by kernel_rfl))
      exact A_move (wanted_yes (j := 10) rfl rfl rfl f10) _ rfl ((.int .i64 x)) k1 rfl rfl
    refine .cons (fun did a W h hd => ?_) ?_
    · have f10 : a.eval (.tmp 19) = (.bool true) := h.fact 10 (by decide) (hd 10 (by kernel_rfl))
      have f11 : a.eval (.tmp 20) = (.agg (arr .u8 (sec))) := h.fact 11 (by decide) (hd 11 (by kernel_rfl))
      have f12 : a.eval (.tmp 21) = (.int .i64 x) := h.fact 12 (by decide) (hd 12 (by kernel_rfl))
      exact A_call (wanted_yes (j := 10) rfl rfl rfl f10) 38 #[.tmp 20, .tmp 21] #[38, 3] rfl #[(.agg (arr .u8 (sec))), .int .i64 x] (by simp only [List.map_toArray, List.map_cons, List.map_nil, f11, f12] <;> rfl) (by kernel_rfl) ((Ticket_calls sec x _ HSL.out HBS.out).mono fun e w' hh => ⟨_, hh.1, hh.2, rfl⟩) rfl
    refine .cons (fun did a W h hd => ?_) ?_
    · have k3 : a.eval (.tmp 3) = .pointer (some ⟨g3, 0, none⟩) := h.kept 3 (by kernel_rfl)
      have f10 : a.eval (.tmp 19) = (.bool true) := h.fact 10 (by decide) (hd 10 (by kernel_rfl))
      exact A_load (wanted_yes (j := 10) rfl rfl rfl f10) 38 (.tmp 3) rfl g3 k3 38 (arr .u8 sec) _ ((h.below.block g3 (blk_lt HX3.out)).trans HX3.out) Try.underlying38 rfl (by rw [arr_size, HSL.out]; kernel_rfl) rfl rfl
    refine .cons (fun did a W h hd => ?_) ?_
    · have k1 : a.eval (.tmp 1) = .int .i64 x := h.kept 1 (by kernel_rfl)
      have f10 : a.eval (.tmp 19) = (.bool true) := h.fact 10 (by decide) (hd 10 (by kernel_rfl))
      exact A_move (wanted_yes (j := 10) rfl rfl rfl f10) _ rfl ((.int .i64 x)) k1 rfl rfl
    refine .cons (fun did a W h hd => ?_) ?_
    · have f10 : a.eval (.tmp 19) = (.bool true) := h.fact 10 (by decide) (hd 10 (by kernel_rfl))
      have f15 : a.eval (.tmp 24) = (.int .i64 x) := h.fact 15 (by decide) (hd 15 (by kernel_rfl))
      exact A_bslice (wanted_yes (j := 10) rfl rfl rfl f10) 59 3 1 _ rfl Try.underlying59 [(0, .int .i64 x)] (by simp only [List.map_toArray, List.map_cons, List.map_nil, f15] <;> rfl) (arr .i64 [x]) (by kernel_rfl) (fun g w' h1 h2 => ⟨g, rfl, h1⟩)
    refine .cons (fun did a W h hd => ?_) ?_
    · have f10 : a.eval (.tmp 19) = (.bool true) := h.fact 10 (by decide) (hd 10 (by kernel_rfl))
      have f13 : a.eval (.tmp 22) = (.agg (arr .u8 (keyL sec { data := #[116, 105, 99, 107, 101, 116] } [x]))) := h.fact 13 (by decide) (hd 13 (by kernel_rfl))
      have f14 : a.eval (.tmp 23) = (.agg (arr .u8 (sec))) := h.fact 14 (by decide) (hd 14 (by kernel_rfl))
      obtain ⟨g16_, f16, b16⟩ : ∃ g, a.eval (.tmp 25) = .slice (some ⟨g, 0, none⟩) 1 1 ∧ W.heap[g]? = some (.cells (arr .i64 [x]) 3 (0, 0)) := h.fact 16 (by decide) (hd 16 (by kernel_rfl))
      exact A_call (wanted_yes (j := 10) rfl rfl rfl f10) 35 #[.tmp 23, .const (.string { data := #[116, 105, 99, 107, 101, 116] }), .tmp 25] #[38, 9, 59] rfl #[(.agg (arr .u8 (sec))), .string { data := #[116, 105, 99, 107, 101, 116] }, .slice (some ⟨g16_, 0, none⟩) 1 1] (by simp only [List.map_toArray, List.map_cons, List.map_nil, f14, f16] <;> rfl) (by kernel_rfl) ((refKey_calls sec { data := #[116, 105, 99, 107, 101, 116] } (some ⟨g16_, 0, none⟩) 1 [x] _ HSL.out HBS.out (by decide) (C_arr (xs := [x]) b16 (by simp)) (by simp) (by simp)).mono fun e w' hh => ⟨_, hh.1, hh.2, rfl⟩) rfl
    refine .cons (fun did a W h hd => ?_) ?_
    · have f10 : a.eval (.tmp 19) = (.bool true) := h.fact 10 (by decide) (hd 10 (by kernel_rfl))
      have f13 : a.eval (.tmp 22) = (.agg (arr .u8 (keyL sec { data := #[116, 105, 99, 107, 101, 116] } [x]))) := h.fact 13 (by decide) (hd 13 (by kernel_rfl))
      have f17 : a.eval (.tmp 26) = (.agg (arr .u8 (keyL sec { data := #[116, 105, 99, 107, 101, 116] } [x]))) := h.fact 17 (by decide) (hd 17 (by kernel_rfl))
      exact A_eqarr (wanted_yes (j := 10) rfl rfl rfl f10) 38 5 32 .u8 (.tmp 22) (.tmp 26) 38 rfl Try.underlying38 Try.underlying5 (by kernel_rfl) (by kernel_rfl) (keyL sec { data := #[116, 105, 99, 107, 101, 116] } [x]) (keyL sec { data := #[116, 105, 99, 107, 101, 116] } [x]) f13 f17 (keyL_length _ _ _) (keyL_length _ _ _) true (decide_eq_true rfl) rfl rfl
    refine .cons (fun did a W h hd => ?_) ?_
    · have f10 : a.eval (.tmp 19) = (.bool true) := h.fact 10 (by decide) (hd 10 (by kernel_rfl))
      have f18 : a.eval (.tmp 27) = (.bool true) := h.fact 18 (by decide) (hd 18 (by kernel_rfl))
      exact A_pick (wanted_none rfl) _ _ _ rfl _ f10 ((.bool true)) (by rw [if_pos rfl]; exact f18) rfl rfl
    refine .cons (fun did a W h hd => ?_) ?_
    · have f17 : a.eval (.tmp 26) = (.agg (arr .u8 (keyL sec { data := #[116, 105, 99, 107, 101, 116] } [x]))) := h.fact 17 (by decide) (hd 17 (by kernel_rfl))
      have f19 : a.eval (.tmp 28) = (.bool true) := h.fact 19 (by decide) (hd 19 (by kernel_rfl))
      exact A_move (wanted_none rfl) _ rfl ((.bool true)) f19 rfl rfl
    refine .cons (fun did a W h hd => ?_) ?_
    · have k3 : a.eval (.tmp 3) = .pointer (some ⟨g3, 0, none⟩) := h.kept 3 (by kernel_rfl)
      have f20 : a.eval (.tmp 29) = (.bool true) := h.fact 20 (by decide) (hd 20 (by kernel_rfl))
      exact A_load (wanted_yes (j := 20) rfl rfl rfl f20) 38 (.tmp 3) rfl g3 k3 38 (arr .u8 sec) _ ((h.below.block g3 (blk_lt HX3.out)).trans HX3.out) Try.underlying38 rfl (by rw [arr_size, HSL.out]; kernel_rfl) rfl rfl
    refine .cons (fun did a W h hd => ?_) ?_
    · have k1 : a.eval (.tmp 1) = .int .i64 x := h.kept 1 (by kernel_rfl)
      have f20 : a.eval (.tmp 29) = (.bool true) := h.fact 20 (by decide) (hd 20 (by kernel_rfl))
      exact A_move (wanted_yes (j := 20) rfl rfl rfl f20) _ rfl ((.int .i64 x)) k1 rfl rfl
    refine .cons (fun did a W h hd => ?_) ?_
    · have k2 : a.eval (.tmp 2) = .int .i64 y := h.kept 2 (by kernel_rfl)
      have f20 : a.eval (.tmp 29) = (.bool true) := h.fact 20 (by decide) (hd 20 (by kernel_rfl))
      exact A_move (wanted_yes (j := 20) rfl rfl rfl f20) _ rfl ((.int .i64 y)) k2 rfl rfl
    refine .cons (fun did a W h hd => ?_) ?_
    · have f20 : a.eval (.tmp 29) = (.bool true) := h.fact 20 (by decide) (hd 20 (by kernel_rfl))
      have f21 : a.eval (.tmp 30) = (.agg (arr .u8 (sec))) := h.fact 21 (by decide) (hd 21 (by kernel_rfl))
      have f22 : a.eval (.tmp 31) = (.int .i64 x) := h.fact 22 (by decide) (hd 22 (by kernel_rfl))
      have f23 : a.eval (.tmp 32) = (.int .i64 y) := h.fact 23 (by decide) (hd 23 (by kernel_rfl))
      exact A_call (wanted_yes (j := 20) rfl rfl rfl f20) 39 #[.tmp 30, .tmp 31, .tmp 32] #[38, 3, 3] rfl #[(.agg (arr .u8 (sec))), .int .i64 x, .int .i64 y] (by simp only [List.map_toArray, List.map_cons, List.map_nil, f21, f22, f23] <;> rfl) (by kernel_rfl) ((Device_calls sec x  y _ HSL.out HBS.out).mono fun e w' hh => ⟨_, hh.1, hh.2, rfl⟩) rfl
    refine .cons (fun did a W h hd => ?_) ?_
    · have k3 : a.eval (.tmp 3) = .pointer (some ⟨g3, 0, none⟩) := h.kept 3 (by kernel_rfl)
      have f20 : a.eval (.tmp 29) = (.bool true) := h.fact 20 (by decide) (hd 20 (by kernel_rfl))
      exact A_load (wanted_yes (j := 20) rfl rfl rfl f20) 38 (.tmp 3) rfl g3 k3 38 (arr .u8 sec) _ ((h.below.block g3 (blk_lt HX3.out)).trans HX3.out) Try.underlying38 rfl (by rw [arr_size, HSL.out]; kernel_rfl) rfl rfl
    refine .cons (fun did a W h hd => ?_) ?_
    · have k1 : a.eval (.tmp 1) = .int .i64 x := h.kept 1 (by kernel_rfl)
      have f20 : a.eval (.tmp 29) = (.bool true) := h.fact 20 (by decide) (hd 20 (by kernel_rfl))
      exact A_move (wanted_yes (j := 20) rfl rfl rfl f20) _ rfl ((.int .i64 x)) k1 rfl rfl
    refine .cons (fun did a W h hd => ?_) ?_
    · have k2 : a.eval (.tmp 2) = .int .i64 y := h.kept 2 (by kernel_rfl)
      have f20 : a.eval (.tmp 29) = (.bool true) := h.fact 20 (by decide) (hd 20 (by kernel_rfl))
      exact A_move (wanted_yes (j := 20) rfl rfl rfl f20) _ rfl ((.int .i64 y)) k2 rfl rfl
    refine .cons (fun did a W h hd => ?_) ?_
    · have f20 : a.eval (.tmp 29) = (.bool true) := h.fact 20 (by decide) (hd 20 (by kernel_rfl))
      have f26 : a.eval (.tmp 35) = (.int .i64 x) := h.fact 26 (by decide) (hd 26 (by kernel_rfl))
      have f27 : a.eval (.tmp 36) = (.int .i64 y) := h.fact 27 (by decide) (hd 27 (by kernel_rfl))
      exact A_bslice (wanted_yes (j := 20) rfl rfl rfl f20) 59 3 2 _ rfl Try.underlying59 [(0, .int .i64 x), (1, .int .i64 y)] (by simp only [List.map_toArray, List.map_cons, List.map_nil, f26, f27] <;> rfl) (arr .i64 [x, y]) (by kernel_rfl) (fun g w' h1 h2 => ⟨g, rfl, h1⟩)
    refine .cons (fun did a W h hd => ?_) ?_
    · have f20 : a.eval (.tmp 29) = (.bool true) := h.fact 20 (by decide) (hd 20 (by kernel_rfl))
      have f24 : a.eval (.tmp 33) = (.agg (arr .u8 (keyL sec { data := #[100, 101, 118, 105, 99, 101] } [x, y]))) := h.fact 24 (by decide) (hd 24 (by kernel_rfl))
      have f25 : a.eval (.tmp 34) = (.agg (arr .u8 (sec))) := h.fact 25 (by decide) (hd 25 (by kernel_rfl))
      obtain ⟨g28_, f28, b28⟩ : ∃ g, a.eval (.tmp 37) = .slice (some ⟨g, 0, none⟩) 2 2 ∧ W.heap[g]? = some (.cells (arr .i64 [x, y]) 3 (0, 0)) := h.fact 28 (by decide) (hd 28 (by kernel_rfl))
      exact A_call (wanted_yes (j := 20) rfl rfl rfl f20) 35 #[.tmp 34, .const (.string { data := #[100, 101, 118, 105, 99, 101] }), .tmp 37] #[38, 9, 59] rfl #[(.agg (arr .u8 (sec))), .string { data := #[100, 101, 118, 105, 99, 101] }, .slice (some ⟨g28_, 0, none⟩) 2 2] (by simp only [List.map_toArray, List.map_cons, List.map_nil, f25, f28] <;> rfl) (by kernel_rfl) ((refKey_calls sec { data := #[100, 101, 118, 105, 99, 101] } (some ⟨g28_, 0, none⟩) 2 [x, y] _ HSL.out HBS.out (by decide) (C_arr (xs := [x, y]) b28 (by simp)) (by simp) (by simp)).mono fun e w' hh => ⟨_, hh.1, hh.2, rfl⟩) rfl
    refine .cons (fun did a W h hd => ?_) ?_
    · have f20 : a.eval (.tmp 29) = (.bool true) := h.fact 20 (by decide) (hd 20 (by kernel_rfl))
      have f24 : a.eval (.tmp 33) = (.agg (arr .u8 (keyL sec { data := #[100, 101, 118, 105, 99, 101] } [x, y]))) := h.fact 24 (by decide) (hd 24 (by kernel_rfl))
      have f29 : a.eval (.tmp 38) = (.agg (arr .u8 (keyL sec { data := #[100, 101, 118, 105, 99, 101] } [x, y]))) := h.fact 29 (by decide) (hd 29 (by kernel_rfl))
      exact A_eqarr (wanted_yes (j := 20) rfl rfl rfl f20) 38 5 32 .u8 (.tmp 33) (.tmp 38) 38 rfl Try.underlying38 Try.underlying5 (by kernel_rfl) (by kernel_rfl) (keyL sec { data := #[100, 101, 118, 105, 99, 101] } [x, y]) (keyL sec { data := #[100, 101, 118, 105, 99, 101] } [x, y]) f24 f29 (keyL_length _ _ _) (keyL_length _ _ _) true (decide_eq_true rfl) rfl rfl
    refine .cons (fun did a W h hd => ?_) ?_
    · have f20 : a.eval (.tmp 29) = (.bool true) := h.fact 20 (by decide) (hd 20 (by kernel_rfl))
      have f30 : a.eval (.tmp 39) = (.bool true) := h.fact 30 (by decide) (hd 30 (by kernel_rfl))
      exact A_pick (wanted_none rfl) _ _ _ rfl _ f20 ((.bool true)) (by rw [if_pos rfl]; exact f30) rfl rfl
    refine .cons (fun did a W h hd => ?_) ?_
    · have f0 : a.eval (.tmp 9) = (.agg (arr .u8 (sec))) := h.fact 0 (by decide) (hd 0 (by kernel_rfl))
      have f1 : a.eval (.tmp 10) = (.int .i64 x) := h.fact 1 (by decide) (hd 1 (by kernel_rfl))
      have f2 : a.eval (.tmp 11) = (.int .i64 y) := h.fact 2 (by decide) (hd 2 (by kernel_rfl))
      have f3 : a.eval (.tmp 12) = (.agg (arr .u8 (keyL sec { data := #[112, 97, 99, 107, 101, 116] } [x, y]))) := h.fact 3 (by decide) (hd 3 (by kernel_rfl))
      have f4 : a.eval (.tmp 13) = (.agg (arr .u8 (sec))) := h.fact 4 (by decide) (hd 4 (by kernel_rfl))
      have f5 : a.eval (.tmp 14) = (.int .i64 x) := h.fact 5 (by decide) (hd 5 (by kernel_rfl))
      have f6 : a.eval (.tmp 15) = (.int .i64 y) := h.fact 6 (by decide) (hd 6 (by kernel_rfl))
      obtain ⟨g7_, f7, b7⟩ : ∃ g, a.eval (.tmp 16) = .slice (some ⟨g, 0, none⟩) 2 2 ∧ W.heap[g]? = some (.cells (arr .i64 [x, y]) 3 (0, 0)) := h.fact 7 (by decide) (hd 7 (by kernel_rfl))
      have f8 : a.eval (.tmp 17) = (.agg (arr .u8 (keyL sec { data := #[112, 97, 99, 107, 101, 116] } [x, y]))) := h.fact 8 (by decide) (hd 8 (by kernel_rfl))
      have f9 : a.eval (.tmp 18) = (.bool true) := h.fact 9 (by decide) (hd 9 (by kernel_rfl))
      have f10 : a.eval (.tmp 19) = (.bool true) := h.fact 10 (by decide) (hd 10 (by kernel_rfl))
      have f11 : a.eval (.tmp 20) = (.agg (arr .u8 (sec))) := h.fact 11 (by decide) (hd 11 (by kernel_rfl))
      have f12 : a.eval (.tmp 21) = (.int .i64 x) := h.fact 12 (by decide) (hd 12 (by kernel_rfl))
      have f13 : a.eval (.tmp 22) = (.agg (arr .u8 (keyL sec { data := #[116, 105, 99, 107, 101, 116] } [x]))) := h.fact 13 (by decide) (hd 13 (by kernel_rfl))
      have f14 : a.eval (.tmp 23) = (.agg (arr .u8 (sec))) := h.fact 14 (by decide) (hd 14 (by kernel_rfl))
      have f15 : a.eval (.tmp 24) = (.int .i64 x) := h.fact 15 (by decide) (hd 15 (by kernel_rfl))
      obtain ⟨g16_, f16, b16⟩ : ∃ g, a.eval (.tmp 25) = .slice (some ⟨g, 0, none⟩) 1 1 ∧ W.heap[g]? = some (.cells (arr .i64 [x]) 3 (0, 0)) := h.fact 16 (by decide) (hd 16 (by kernel_rfl))
      have f17 : a.eval (.tmp 26) = (.agg (arr .u8 (keyL sec { data := #[116, 105, 99, 107, 101, 116] } [x]))) := h.fact 17 (by decide) (hd 17 (by kernel_rfl))
      have f18 : a.eval (.tmp 27) = (.bool true) := h.fact 18 (by decide) (hd 18 (by kernel_rfl))
      have f19 : a.eval (.tmp 28) = (.bool true) := h.fact 19 (by decide) (hd 19 (by kernel_rfl))
      have f20 : a.eval (.tmp 29) = (.bool true) := h.fact 20 (by decide) (hd 20 (by kernel_rfl))
      have f21 : a.eval (.tmp 30) = (.agg (arr .u8 (sec))) := h.fact 21 (by decide) (hd 21 (by kernel_rfl))
      have f22 : a.eval (.tmp 31) = (.int .i64 x) := h.fact 22 (by decide) (hd 22 (by kernel_rfl))
      have f23 : a.eval (.tmp 32) = (.int .i64 y) := h.fact 23 (by decide) (hd 23 (by kernel_rfl))
      have f24 : a.eval (.tmp 33) = (.agg (arr .u8 (keyL sec { data := #[100, 101, 118, 105, 99, 101] } [x, y]))) := h.fact 24 (by decide) (hd 24 (by kernel_rfl))
      have f25 : a.eval (.tmp 34) = (.agg (arr .u8 (sec))) := h.fact 25 (by decide) (hd 25 (by kernel_rfl))
      have f26 : a.eval (.tmp 35) = (.int .i64 x) := h.fact 26 (by decide) (hd 26 (by kernel_rfl))
      have f27 : a.eval (.tmp 36) = (.int .i64 y) := h.fact 27 (by decide) (hd 27 (by kernel_rfl))
      obtain ⟨g28_, f28, b28⟩ : ∃ g, a.eval (.tmp 37) = .slice (some ⟨g, 0, none⟩) 2 2 ∧ W.heap[g]? = some (.cells (arr .i64 [x, y]) 3 (0, 0)) := h.fact 28 (by decide) (hd 28 (by kernel_rfl))
      have f29 : a.eval (.tmp 38) = (.agg (arr .u8 (keyL sec { data := #[100, 101, 118, 105, 99, 101] } [x, y]))) := h.fact 29 (by decide) (hd 29 (by kernel_rfl))
      have f30 : a.eval (.tmp 39) = (.bool true) := h.fact 30 (by decide) (hd 30 (by kernel_rfl))
      have f31 : a.eval (.tmp 40) = (.bool true) := h.fact 31 (by decide) (hd 31 (by kernel_rfl))
      exact A_assign (wanted_none rfl) _ rfl ((.bool true)) f31 rfl rfl
    exact .nil
  case rfin12_3 =>
    intro a W h
    refine wpAny_done (by kernel_rfl) ?_ _
    have f0 : a.eval (.tmp 9) = (.agg (arr .u8 (sec))) := h.fact 0 (by decide) trivial
    have f1 : a.eval (.tmp 10) = (.int .i64 x) := h.fact 1 (by decide) trivial
    have f2 : a.eval (.tmp 11) = (.int .i64 y) := h.fact 2 (by decide) trivial
    have f3 : a.eval (.tmp 12) = (.agg (arr .u8 (keyL sec { data := #[112, 97, 99, 107, 101, 116] } [x, y]))) := h.fact 3 (by decide) trivial
    have f4 : a.eval (.tmp 13) = (.agg (arr .u8 (sec))) := h.fact 4 (by decide) trivial
    have f5 : a.eval (.tmp 14) = (.int .i64 x) := h.fact 5 (by decide) trivial
    have f6 : a.eval (.tmp 15) = (.int .i64 y) := h.fact 6 (by decide) trivial
    obtain ⟨g7_, f7, b7⟩ : ∃ g, a.eval (.tmp 16) = .slice (some ⟨g, 0, none⟩) 2 2 ∧ W.heap[g]? = some (.cells (arr .i64 [x, y]) 3 (0, 0)) := h.fact 7 (by decide) trivial
    have f8 : a.eval (.tmp 17) = (.agg (arr .u8 (keyL sec { data := #[112, 97, 99, 107, 101, 116] } [x, y]))) := h.fact 8 (by decide) trivial
    have f9 : a.eval (.tmp 18) = (.bool true) := h.fact 9 (by decide) trivial
    have f10 : a.eval (.tmp 19) = (.bool true) := h.fact 10 (by decide) trivial
    have f11 : a.eval (.tmp 20) = (.agg (arr .u8 (sec))) := h.fact 11 (by decide) trivial
    have f12 : a.eval (.tmp 21) = (.int .i64 x) := h.fact 12 (by decide) trivial
    have f13 : a.eval (.tmp 22) = (.agg (arr .u8 (keyL sec { data := #[116, 105, 99, 107, 101, 116] } [x]))) := h.fact 13 (by decide) trivial
    have f14 : a.eval (.tmp 23) = (.agg (arr .u8 (sec))) := h.fact 14 (by decide) trivial
    have f15 : a.eval (.tmp 24) = (.int .i64 x) := h.fact 15 (by decide) trivial
    obtain ⟨g16_, f16, b16⟩ : ∃ g, a.eval (.tmp 25) = .slice (some ⟨g, 0, none⟩) 1 1 ∧ W.heap[g]? = some (.cells (arr .i64 [x]) 3 (0, 0)) := h.fact 16 (by decide) trivial
    have f17 : a.eval (.tmp 26) = (.agg (arr .u8 (keyL sec { data := #[116, 105, 99, 107, 101, 116] } [x]))) := h.fact 17 (by decide) trivial
    have f18 : a.eval (.tmp 27) = (.bool true) := h.fact 18 (by decide) trivial
    have f19 : a.eval (.tmp 28) = (.bool true) := h.fact 19 (by decide) trivial
    have f20 : a.eval (.tmp 29) = (.bool true) := h.fact 20 (by decide) trivial
    have f21 : a.eval (.tmp 30) = (.agg (arr .u8 (sec))) := h.fact 21 (by decide) trivial
    have f22 : a.eval (.tmp 31) = (.int .i64 x) := h.fact 22 (by decide) trivial
    have f23 : a.eval (.tmp 32) = (.int .i64 y) := h.fact 23 (by decide) trivial
    have f24 : a.eval (.tmp 33) = (.agg (arr .u8 (keyL sec { data := #[100, 101, 118, 105, 99, 101] } [x, y]))) := h.fact 24 (by decide) trivial
    have f25 : a.eval (.tmp 34) = (.agg (arr .u8 (sec))) := h.fact 25 (by decide) trivial
    have f26 : a.eval (.tmp 35) = (.int .i64 x) := h.fact 26 (by decide) trivial
    have f27 : a.eval (.tmp 36) = (.int .i64 y) := h.fact 27 (by decide) trivial
    obtain ⟨g28_, f28, b28⟩ : ∃ g, a.eval (.tmp 37) = .slice (some ⟨g, 0, none⟩) 2 2 ∧ W.heap[g]? = some (.cells (arr .i64 [x, y]) 3 (0, 0)) := h.fact 28 (by decide) trivial
    have f29 : a.eval (.tmp 38) = (.agg (arr .u8 (keyL sec { data := #[100, 101, 118, 105, 99, 101] } [x, y]))) := h.fact 29 (by decide) trivial
    have f30 : a.eval (.tmp 39) = (.bool true) := h.fact 30 (by decide) trivial
    have f31 : a.eval (.tmp 40) = (.bool true) := h.fact 31 (by decide) trivial
    have f32 : a.eval (.tmp 6) = (.bool true) := h.fact 32 (by decide) trivial
    have ha : a = { tmps := #[(.agg (arr .u8 (sec))), .int .i64 x, .int .i64 y, .pointer (some ⟨g3, 0, none⟩), undef, undef, (.bool true), .bool true, .bool false, (.agg (arr .u8 (sec))), (.int .i64 x), (.int .i64 y), (.agg (arr .u8 (keyL sec { data := #[112, 97, 99, 107, 101, 116] } [x, y]))), (.agg (arr .u8 (sec))), (.int .i64 x), (.int .i64 y), Value.slice (some ⟨g7_, 0, none⟩) 2 2, (.agg (arr .u8 (keyL sec { data := #[112, 97, 99, 107, 101, 116] } [x, y]))), (.bool true), (.bool true), (.agg (arr .u8 (sec))), (.int .i64 x), (.agg (arr .u8 (keyL sec { data := #[116, 105, 99, 107, 101, 116] } [x]))), (.agg (arr .u8 (sec))), (.int .i64 x), Value.slice (some ⟨g16_, 0, none⟩) 1 1, (.agg (arr .u8 (keyL sec { data := #[116, 105, 99, 107, 101, 116] } [x]))), (.bool true), (.bool true), (.bool true), (.agg (arr .u8 (sec))), (.int .i64 x), (.int .i64 y), (.agg (arr .u8 (keyL sec { data := #[100, 101, 118, 105, 99, 101] } [x, y]))), (.agg (arr .u8 (sec))), (.int .i64 x), (.int .i64 y), Value.slice (some ⟨g28_, 0, none⟩) 2 2, (.agg (arr .u8 (keyL sec { data := #[100, 101, 118, 105, 99, 101] } [x, y]))), (.bool true), (.bool true)], defers := [] } := frame_ext h.size h.defers (.cons (h.kept 0 (by kernel_rfl)) (.cons (h.kept 1 (by kernel_rfl)) (.cons (h.kept 2 (by kernel_rfl)) (.cons (h.kept 3 (by kernel_rfl)) (.cons (h.kept 4 (by kernel_rfl)) (.cons (h.kept 5 (by kernel_rfl)) (.cons f32 (.cons (h.kept 7 (by kernel_rfl)) (.cons (h.kept 8 (by kernel_rfl)) (.cons f0 (.cons f1 (.cons f2 (.cons f3 (.cons f4 (.cons f5 (.cons f6 (.cons f7 (.cons f8 (.cons f9 (.cons f10 (.cons f11 (.cons f12 (.cons f13 (.cons f14 (.cons f15 (.cons f16 (.cons f17 (.cons f18 (.cons f19 (.cons f20 (.cons f21 (.cons f22 (.cons f23 (.cons f24 (.cons f25 (.cons f26 (.cons f27 (.cons f28 (.cons f29 (.cons f30 (.cons f31 (.nil))))))))))))))))))))))))))))))))))))))))))
    have hbel := h.below
    subst ha
    clear h
    go_wp2
    go_ret
    exact ⟨rfl, (below_drew HBE.out).trans (hbel.mono HBE.out.size)⟩
end Go.Proofs.Ythpkbamhpmgffaa.Sha

