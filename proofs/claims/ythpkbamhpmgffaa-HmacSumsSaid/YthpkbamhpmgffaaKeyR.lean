/- Hand-written walks and plain lemmas: what each Go function comes to (KeyK). No condition. -/
import Derived.Test.YthpkbamhpmgffaaKeyOne
import Derived.Test.YthpkbamhpmgffaaKeyO
namespace Go.AnyFacts
open Go Go.RowKit Go.Proofs.YthpkbamhpmgffaaW.Hand Go.Proofs.YthpkbamhpmgffaaW.PrintWords Go.Proofs.YthpkbamhpmgffaaW.PrintLast Go.Proofs.YthpkbamhpmgffaaW.PrintMore Go.Proofs.Ythpkbamhpmgffaa.PF02 Go.Proofs.Ythpkbamhpmgffaa.Base Go.Proofs.Ythpkbamhpmgffaa.LF02 Go.Proofs.Ythpkbamhpmgffaa.Sha
set_option linter.unusedVariables false
set_option linter.unusedSimpArgs false
section
variable {P : Program} {ops : Array Oper} {Q : Exit → Act → World → Prop} {t : Nat → Value → World → Prop} {fresh : Nat → Bool} {i : Nat} {o : Oper} {a : Act} {w : World}
theorem A_cuthi (hw : Region.wanted o (yielded ops a.tmps) = true) (ty e : TypeId) (x y : Operand) (ho : o.op = .slice ty x none (some y) none) (ht : P.underlying ty = some (.slice e)) (hsz : (P.info? e).map (·.size) = some 1) (A : Option Addr) (n c m : Nat) (hx : a.eval x = .slice A n c) (hy : a.eval y = .int .i64 (m : Int)) (hm : m ≤ c)
    (hv : t i (.slice A m c) w) (hf : fresh i = false) : Step ops t fresh P Q i o a w := by
  refine A_value hw _ ?_ hv hf
  have e0 : (if c = 0 then A else A.map (·.add (0 * 1))) = A := by
    split
    · rfl
    · cases A with
      | none => rfl
      | some ad => simp [Addr.add]
  cases hq : P.info? e with
  | none => simp [hq] at hsz
  | some ii =>
    have hs : ii.size = 1 := by simpa [hq] using hsz
    have hb : (Instr.sliceBounds true n c none (some (.int .i64 (m : Int))) none).run P w = .ok (0, m, c) w := by
      simp [Instr.sliceBounds, Instr.sliceBound, asIntOf]
      omega
    simp only [execOp, ho, hx, hy, Instr.sliceAt, Instr.slice, Option.map_some, Option.map_none, Sem.run_bind, run_underlying ht, Result.andThen_ok, hb, sizeOf, typeInfo]
    simp [hq, hs]
    cases A with
    | none => simp
    | some ad => simp [Addr.add]
theorem A_cutlo (hw : Region.wanted o (yielded ops a.tmps) = true) (ty e : TypeId) (x y : Operand) (ho : o.op = .slice ty x (some y) none none) (ht : P.underlying ty = some (.slice e)) (hsz : (P.info? e).map (·.size) = some 1) (A : Option Addr) (n c m : Nat) (hx : a.eval x = .slice A n c) (hy : a.eval y = .int .i64 (m : Int)) (hm : m ≤ n)
    (hv : t i (.slice (if c = m then A else A.map (·.add (m * 1))) (n - m) (c - m)) w) (hf : fresh i = false) : Step ops t fresh P Q i o a w := by
  refine A_value hw _ ?_ hv hf
  cases hq : P.info? e with
  | none => simp [hq] at hsz
  | some ii =>
    have hs : ii.size = 1 := by simpa [hq] using hsz
    have hb : (Instr.sliceBounds true n c (some (.int .i64 (m : Int))) none none).run P w = .ok (m, n, c) w := by
      simp [Instr.sliceBounds, Instr.sliceBound, asIntOf]
      omega
    simp only [execOp, ho, hx, hy, Instr.sliceAt, Instr.slice, Option.map_some, Option.map_none, Sem.run_bind, run_underlying ht, Result.andThen_ok, hb, sizeOf, typeInfo]
    simp [hq, hs]
end
end Go.AnyFacts
namespace Go.Proofs.Ythpkbamhpmgffaa.Sha
open Go.AnyFacts Go.RowKit Go.Proofs.YthpkbamhpmgffaaW.Hand Go.Proofs.YthpkbamhpmgffaaW.PrintWords Go.Proofs.YthpkbamhpmgffaaW.PrintLast Go.Proofs.YthpkbamhpmgffaaW.PrintMore Go.Proofs.Ythpkbamhpmgffaa.PF02 Go.Proofs.Ythpkbamhpmgffaa.Base Go.Proofs.Ythpkbamhpmgffaa.LF02
set_option linter.unusedVariables false
set_option linter.unusedSimpArgs false
theorem below_drewK {w w' : World} {B : Nat} (h : Below B w.drew w') : Below B w w' := (below_drew (Below.refl _ _)).trans h
set_option maxHeartbeats 8000000 in
set_option maxRecDepth 100000 in
theorem HmacSums_calls (A : Option Addr) (c : Nat) (key : List Int) (A2 : Option Addr) (c2 : Nat) (m : List Int) (cut : Int) (w : World) (hC : Kd.C (Kd.int .u8) w A key.length key) (hcc : key.length ≤ c) (hB : Bytes key) (hCm : Kd.C (Kd.int .u8) w A2 m.length m) (hcm : m.length ≤ c2) (hBm : Bytes m) (hcut : 0 ≤ cut ∧ cut ≤ 65535) :
    Calls Try.prog 7 #[.slice A key.length c, .slice A2 m.length c2, .int .u16 cut] w fun e w' => e = .returned (.bool true) ∧ Below w.heap.size w w' := by
  have HC0 := Aside0.mk hC
  have HCM0 := Aside0.mk hCm
  have HBB := Aside0.mk hB
  have HBM := Aside0.mk hBm
  clear hC hCm hB hBm
  obtain ⟨hc0, hc1⟩ := hcut
  by_cases h1 : key.length > 200
  · go_enter Try.func7, Try.ntmps7
    go_wp2_with (go_at_call 27; refine (awake03_calls _).mono ?_; rintro e w1 ⟨rfl, hba⟩; have HBA := Aside0.mk hba; clear hba)
    go_ret
    exact ⟨rfl, HBA.out⟩
  by_cases h2 : m.length > 200
  · go_enter Try.func7, Try.ntmps7
    go_wp2_with (go_at_call 27; refine (awake03_calls _).mono ?_; rintro e w1 ⟨rfl, hba⟩; have HBA := Aside0.mk hba; clear hba)
    go_ret
    exact ⟨rfl, HBA.out⟩
  obtain ⟨S, hS⟩ : ∃ S, S = hmacL key [m] := ⟨_, rfl⟩
  have HSL := Aside0.mk (show S.length = 32 by rw [hS]; exact hmacL_length _ _)
  have hcall1 : ∀ W g, Kd.C (Kd.int .u8) W A key.length key → W.heap[g]? = some (.cells #[.slice A2 m.length c2] 24 (0, 0)) → Kd.C (Kd.int .u8) W A2 m.length m → Calls Try.prog 28 #[.slice A key.length c, .slice (some ⟨g, 0, none⟩) 1 1] W fun e w' => e = .returned (.agg (arr .u8 S)) ∧ Below W.heap.size W w' := by
    intro W g h1 h2 h3
    rw [hS]
    exact HmacSum_calls A c key (some ⟨g, 0, none⟩) 1 [m] W h1 hcc HBB.out (by omega) (C_rows1 h2 hcm h3) (by simp) (fun x hx => by rw [List.mem_singleton] at hx; rw [hx]; exact HBM.out) (by simp) (fun x hx => by rw [List.mem_singleton] at hx; rw [hx]; omega)
  have HCALL1 := Aside0.mk hcall1
  have hcall2 : ∀ i V, i ≤ m.length → V = .slice (if c2 = i then A2 else A2.map (·.add (i * 1))) (m.length - i) (c2 - i) → ∀ W g, Kd.C (Kd.int .u8) W A key.length key → W.heap[g]? = some (.cells #[.slice A2 i c2, .slice none 0 0, V] 24 (0, 0)) → Kd.C (Kd.int .u8) W A2 m.length m → Calls Try.prog 28 #[.slice A key.length c, .slice (some ⟨g, 0, none⟩) 3 3] W fun e w' => e = .returned (.agg (arr .u8 S)) ∧ Below W.heap.size W w' := by
    intro i V hi hV W g h1 h2 h3
    subst hV
    have e : hmacL key [m] = hmacL key [m.take i, [], m.drop i] := by unfold hmacL; simp
    rw [hS, e]
    have l1 : (m.take i).length = i := by rw [List.length_take]; omega
    have l2 : (m.drop i).length = m.length - i := List.length_drop
    have hr := C_rows3 (w := W) (g := g) (t := 24) (A0 := A2) (c0 := c2) (p0 := m.take i) (A1 := none) (c1 := 0) (p1 := []) (A2 := if c2 = i then A2 else A2.map (·.add (i * 1))) (c2 := c2 - i) (p2 := m.drop i) (by rw [l1, l2]; exact h2) (by omega) (Kd.C_take h3 hi) (by simp) (C_nil W) (by omega) (Kd.C_drop h3 hi hcm)
    exact HmacSum_calls A c key (some ⟨g, 0, none⟩) 3 [m.take i, [], m.drop i] W h1 hcc HBB.out (by omega) hr (by simp) (fun x hx => by
      simp only [List.mem_cons, List.not_mem_nil, or_false] at hx
      rcases hx with rfl | rfl | rfl
      · exact fun y hy => HBM.out y (List.mem_of_mem_take hy)
      · intro y hy; simp at hy
      · exact fun y hy => HBM.out y (List.mem_of_mem_drop hy)) (by simp) (fun x hx => by
      simp only [List.mem_cons, List.not_mem_nil, or_false] at hx
      rcases hx with rfl | rfl | rfl
      · omega
      · simp
      · omega)
  have hcall3 : ∀ W, Kd.C (Kd.int .u8) W A key.length key → Kd.C (Kd.int .u8) W A2 m.length m → Calls Try.prog 29 #[.slice A key.length c, .slice A2 m.length c2] W fun e w' => NewRow W w' e S := by
    intro W h1 h2
    rw [hS]
    exact refHmac_calls A c key A2 c2 m W h1 hcc HBB.out (by omega) h2 hcm HBM.out (by omega)
  have HCALL3 := Aside0.mk hcall3
  have hsame : ∀ W A3 c3, ∀ g, W.heap[g]? = some (.cells (arr .u8 S) 38 (0, 0)) → Kd.C (Kd.int .u8) W A3 S.length S → S.length ≤ c3 → Calls Try.prog 18 #[.slice (some ⟨g, 0, none⟩) 32 32, .slice A3 S.length c3] W fun e w' => e = .returned (.bool true) ∧ Below W.heap.size W w' := by
    intro W A3 c3 g h1 h2 h3
    have := sameB_calls (some ⟨g, 0, none⟩) 32 S A3 c3 S true W (C_arr h1 (by rw [HSL.out]; omega)) (by rw [HSL.out]; omega) h2 h3 (by rw [HSL.out]; omega) (decide_eq_true rfl)
    rw [HSL.out] at this
    rw [HSL.out]
    exact this
  have HSAMEg := Aside0.mk hsame
  obtain ⟨i, hi, hil⟩ : ∃ i : Nat, cut % ((m.length : Int) + 1) = i ∧ i ≤ m.length := ⟨(cut % ((m.length : Int) + 1)).toNat, by have := Int.emod_nonneg cut (b := (m.length : Int) + 1) (by omega); omega, by have := Int.emod_nonneg cut (b := (m.length : Int) + 1) (by omega); have := Int.emod_lt_of_pos cut (b := (m.length : Int) + 1) (by omega); omega⟩
  obtain ⟨V, hV⟩ : ∃ V : Value, V = .slice (if c2 = i then A2 else A2.map (·.add (i * 1))) (m.length - i) (c2 - i) := ⟨_, rfl⟩
  have HCALL2 := Aside0.mk (hcall2 i V hil hV)
  have HV := Aside0.mk hV
  clear hV
  clear hcall1 hcall2 hcall3 hsame hS
  go_enter Try.func7, Try.ntmps7
  go_wp2_with (go_at_call 27; refine (awake03_calls _).mono ?_; rintro e w1 ⟨rfl, hba⟩; have HBA := Aside0.mk hba; clear hba)
  have HC := Aside0.mk (Kd.C_below HC0.out HBA.out)
  have HCM := Aside0.mk (Kd.C_below HCM0.out HBA.out)
  clear HC0 HCM0
  rw [hi]
  clear hi
  refine region_facts (by kernel_rfl) (getS [fun v _ => v = (.slice A key.length c), fun v _ => v = (.slice A2 m.length c2), fun v w => ∃ g, v = .slice (some ⟨g, 0, none⟩) 1 1 ∧ w.heap[g]? = some (.cells (#[.slice A2 m.length c2]) 24 (0, 0)), fun v _ => v = (.agg (arr .u8 S)), fun v _ => v = (.slice A key.length c), fun v _ => v = (.slice A2 m.length c2), fun v _ => v = (.int .i64 (i : Int)), fun v _ => v = (.slice A2 i c2), fun v _ => v = (.slice A2 m.length c2), fun v _ => v = (.int .i64 (i : Int)), fun v _ => v = V, fun v w => ∃ g, v = .slice (some ⟨g, 0, none⟩) 3 3 ∧ w.heap[g]? = some (.cells (#[.slice A2 i c2, .slice none 0 0, V]) 24 (0, 0)), fun v _ => v = (.agg (arr .u8 S)), fun v w => ∃ g, v = .pointer (some ⟨g, 0, none⟩) ∧ w.heap[g]? = some (.cells (arr .u8 (List.replicate 32 0)) 38 (0, 0)), fun v w => ∃ g, v = .pointer (some ⟨g, 0, none⟩) ∧ w.heap[g]? = some (.cells (arr .u8 (List.replicate 32 0)) 38 (0, 0))]) (fun i => [13, 14].contains i) 15 (by kernel_rfl) (AllStab.spec (.cons (stab_val _) (.cons (stab_val _) (.cons (stab_row _ _ _ _ _) (.cons (stab_val _) (.cons (stab_val _) (.cons (stab_val _) (.cons (stab_val _) (.cons (stab_val _) (.cons (stab_val _) (.cons (stab_val _) (.cons (stab_val _) (.cons (stab_row _ _ _ _ _) (.cons (stab_val _) (.cons (stab_ptr _ _ _) (.cons (stab_ptr _ _ _) .nil)))))))))))))))) (dst_of (by kernel_rfl)) (EachOp.of ?rop7_6) ?rfin7_6
  case rop7_6 =>
    refine .cons (fun did a W h hd => ?_) ?_
    · have k0 : a.eval (.tmp 0) = .slice A key.length c := h.kept 0 (by kernel_rfl)
      exact A_move (wanted_none rfl) _ rfl ((.slice A key.length c)) k0 rfl rfl
    refine .cons (fun did a W h hd => ?_) ?_
    · have k1 : a.eval (.tmp 1) = .slice A2 m.length c2 := h.kept 1 (by kernel_rfl)
      exact A_move (wanted_none rfl) _ rfl ((.slice A2 m.length c2)) k1 rfl rfl
    refine .cons (fun did a W h hd => ?_) ?_
    · have f1 : a.eval (.tmp 27) = (.slice A2 m.length c2) := h.fact 1 (by decide) (hd 1 (by kernel_rfl))
      exact A_bslice (wanted_none rfl) 42 24 1 _ rfl Try.underlying42 [(0, .slice A2 m.length c2)] (by simp only [List.map_toArray, List.map_cons, List.map_nil, f1] <;> rfl) (#[.slice A2 m.length c2]) (by kernel_rfl) (fun g w' h1 h2 => ⟨g, rfl, h1⟩)
    refine .cons (fun did a W h hd => ?_) ?_
    · have f0 : a.eval (.tmp 26) = (.slice A key.length c) := h.fact 0 (by decide) (hd 0 (by kernel_rfl))
      obtain ⟨g2_, f2, b2⟩ : ∃ g, a.eval (.tmp 28) = .slice (some ⟨g, 0, none⟩) 1 1 ∧ W.heap[g]? = some (.cells (#[.slice A2 m.length c2]) 24 (0, 0)) := h.fact 2 (by decide) (hd 2 (by kernel_rfl))
      exact A_call (wanted_none rfl) 28 #[.tmp 26, .tmp 28] #[24, 42] rfl #[.slice A key.length c, .slice (some ⟨g2_, 0, none⟩) 1 1] (by simp only [List.map_toArray, List.map_cons, List.map_nil, f0, f2] <;> rfl) (by kernel_rfl) ((HCALL1.out _ g2_ (Kd.C_below HC.out (below_drewK h.below)) b2 (Kd.C_below HCM.out (below_drewK h.below))).mono fun e w' hh => ⟨_, hh.1, hh.2, rfl⟩) rfl
    refine .cons (fun did a W h hd => ?_) ?_
    · have k0 : a.eval (.tmp 0) = .slice A key.length c := h.kept 0 (by kernel_rfl)
      exact A_move (wanted_none rfl) _ rfl ((.slice A key.length c)) k0 rfl rfl
    refine .cons (fun did a W h hd => ?_) ?_
    · have k1 : a.eval (.tmp 1) = .slice A2 m.length c2 := h.kept 1 (by kernel_rfl)
      exact A_move (wanted_none rfl) _ rfl ((.slice A2 m.length c2)) k1 rfl rfl
    refine .cons (fun did a W h hd => ?_) ?_
    · have k7 : a.eval (.tmp 7) = .int .i64 (i : Int) := h.kept 7 (by kernel_rfl)
      exact A_move (wanted_none rfl) _ rfl ((.int .i64 (i : Int))) k7 rfl rfl
    refine .cons (fun did a W h hd => ?_) ?_
    · have f5 : a.eval (.tmp 31) = (.slice A2 m.length c2) := h.fact 5 (by decide) (hd 5 (by kernel_rfl))
      have f6 : a.eval (.tmp 32) = (.int .i64 (i : Int)) := h.fact 6 (by decide) (hd 6 (by kernel_rfl))
      exact A_cuthi (wanted_none rfl) 24 5 (.tmp 31) (.tmp 32) rfl Try.underlying24 (by kernel_rfl) A2 _ c2 i f5 f6 (by omega) rfl rfl
    refine .cons (fun did a W h hd => ?_) ?_
    · have k1 : a.eval (.tmp 1) = .slice A2 m.length c2 := h.kept 1 (by kernel_rfl)
      exact A_move (wanted_none rfl) _ rfl ((.slice A2 m.length c2)) k1 rfl rfl
    refine .cons (fun did a W h hd => ?_) ?_
    · have k7 : a.eval (.tmp 7) = .int .i64 (i : Int) := h.kept 7 (by kernel_rfl)
      exact A_move (wanted_none rfl) _ rfl ((.int .i64 (i : Int))) k7 rfl rfl
    refine .cons (fun did a W h hd => ?_) ?_
    · have f8 : a.eval (.tmp 34) = (.slice A2 m.length c2) := h.fact 8 (by decide) (hd 8 (by kernel_rfl))
      have f9 : a.eval (.tmp 35) = (.int .i64 (i : Int)) := h.fact 9 (by decide) (hd 9 (by kernel_rfl))
      exact A_cutlo (wanted_none rfl) 24 5 (.tmp 34) (.tmp 35) rfl Try.underlying24 (by kernel_rfl) A2 _ c2 i f8 f9 (by omega) HV.out.symm rfl
    refine .cons (fun did a W h hd => ?_) ?_
    · have f7 : a.eval (.tmp 33) = (.slice A2 i c2) := h.fact 7 (by decide) (hd 7 (by kernel_rfl))
      have f10 : a.eval (.tmp 36) = V := h.fact 10 (by decide) (hd 10 (by kernel_rfl))
      exact A_bslice (wanted_none rfl) 42 24 3 _ rfl Try.underlying42 [(0, .slice A2 i c2), (1, .slice none 0 0), (2, V)] (by simp only [List.map_toArray, List.map_cons, List.map_nil, f7, f10] <;> rfl) (#[.slice A2 i c2, .slice none 0 0, V]) (by rw [HV.out]; kernel_rfl) (fun g w' h1 h2 => ⟨g, rfl, h1⟩)
    refine .cons (fun did a W h hd => ?_) ?_
    · have f3 : a.eval (.tmp 29) = (.agg (arr .u8 S)) := h.fact 3 (by decide) (hd 3 (by kernel_rfl))
      have f4 : a.eval (.tmp 30) = (.slice A key.length c) := h.fact 4 (by decide) (hd 4 (by kernel_rfl))
      obtain ⟨g11_, f11, b11⟩ : ∃ g, a.eval (.tmp 37) = .slice (some ⟨g, 0, none⟩) 3 3 ∧ W.heap[g]? = some (.cells (#[.slice A2 i c2, .slice none 0 0, V]) 24 (0, 0)) := h.fact 11 (by decide) (hd 11 (by kernel_rfl))
      exact A_call (wanted_none rfl) 28 #[.tmp 30, .tmp 37] #[24, 42] rfl #[.slice A key.length c, .slice (some ⟨g11_, 0, none⟩) 3 3] (by simp only [List.map_toArray, List.map_cons, List.map_nil, f4, f11] <;> rfl) (by kernel_rfl) ((HCALL2.out _ g11_ (Kd.C_below HC.out (below_drewK h.below)) b11 (Kd.C_below HCM.out (below_drewK h.below))).mono fun e w' hh => ⟨_, hh.1, hh.2, rfl⟩) rfl
    refine .cons (fun did a W h hd => ?_) ?_
    · exact A_alloc (wanted_none rfl) 38 rfl (.agg (arr .u8 (List.replicate 32 0))) 32 (by kernel_rfl) (fun g w' h1 h2 => ⟨g, rfl, h1⟩)
    refine .cons (fun did a W h hd => ?_) ?_
    · exact A_alloc (wanted_none rfl) 38 rfl (.agg (arr .u8 (List.replicate 32 0))) 32 (by kernel_rfl) (fun g w' h1 h2 => ⟨g, rfl, h1⟩)
    exact .nil
  case rfin7_6 =>
    intro a W h
    have f0 : a.eval (.tmp 26) = (.slice A key.length c) := h.fact 0 (by decide) trivial
    have f1 : a.eval (.tmp 27) = (.slice A2 m.length c2) := h.fact 1 (by decide) trivial
    obtain ⟨g2_, f2, b2⟩ : ∃ g, a.eval (.tmp 28) = .slice (some ⟨g, 0, none⟩) 1 1 ∧ W.heap[g]? = some (.cells (#[.slice A2 m.length c2]) 24 (0, 0)) := h.fact 2 (by decide) trivial
    have f3 : a.eval (.tmp 29) = (.agg (arr .u8 S)) := h.fact 3 (by decide) trivial
    have f4 : a.eval (.tmp 30) = (.slice A key.length c) := h.fact 4 (by decide) trivial
    have f5 : a.eval (.tmp 31) = (.slice A2 m.length c2) := h.fact 5 (by decide) trivial
    have f6 : a.eval (.tmp 32) = (.int .i64 (i : Int)) := h.fact 6 (by decide) trivial
    have f7 : a.eval (.tmp 33) = (.slice A2 i c2) := h.fact 7 (by decide) trivial
    have f8 : a.eval (.tmp 34) = (.slice A2 m.length c2) := h.fact 8 (by decide) trivial
    have f9 : a.eval (.tmp 35) = (.int .i64 (i : Int)) := h.fact 9 (by decide) trivial
    have f10 : a.eval (.tmp 36) = V := h.fact 10 (by decide) trivial
    obtain ⟨g11_, f11, b11⟩ : ∃ g, a.eval (.tmp 37) = .slice (some ⟨g, 0, none⟩) 3 3 ∧ W.heap[g]? = some (.cells (#[.slice A2 i c2, .slice none 0 0, V]) 24 (0, 0)) := h.fact 11 (by decide) trivial
    have f12 : a.eval (.tmp 38) = (.agg (arr .u8 S)) := h.fact 12 (by decide) trivial
    obtain ⟨g13_, f13, b13⟩ : ∃ g, a.eval (.tmp 8) = .pointer (some ⟨g, 0, none⟩) ∧ W.heap[g]? = some (.cells (arr .u8 (List.replicate 32 0)) 38 (0, 0)) := h.fact 13 (by decide) trivial
    obtain ⟨g14_, f14, b14⟩ : ∃ g, a.eval (.tmp 9) = .pointer (some ⟨g, 0, none⟩) ∧ W.heap[g]? = some (.cells (arr .u8 (List.replicate 32 0)) 38 (0, 0)) := h.fact 14 (by decide) trivial
    have ha : a = { tmps := #[.slice A key.length c, .slice A2 m.length c2, .int .u16 cut, undef, undef, undef, .bool false, .int .i64 (i : Int), Value.pointer (some ⟨g13_, 0, none⟩), Value.pointer (some ⟨g14_, 0, none⟩), .bool true, .bool false, .slice A key.length c, .int .i64 (key.length : Int), .bool (decide ((200 : Int) < (key.length : Int))), .bool (decide ((200 : Int) < (key.length : Int))), .slice A2 m.length c2, .int .i64 (m.length : Int), .bool (decide ((200 : Int) < (m.length : Int))), .bool (decide ((200 : Int) < (key.length : Int)) || decide ((200 : Int) < (m.length : Int))), .int .u16 cut, .int .i64 cut, .slice A2 m.length c2, .int .i64 (m.length : Int), .int .i64 ((m.length : Int) + 1), .int .i64 (i : Int), (.slice A key.length c), (.slice A2 m.length c2), Value.slice (some ⟨g2_, 0, none⟩) 1 1, (.agg (arr .u8 S)), (.slice A key.length c), (.slice A2 m.length c2), (.int .i64 (i : Int)), (.slice A2 i c2), (.slice A2 m.length c2), (.int .i64 (i : Int)), V, Value.slice (some ⟨g11_, 0, none⟩) 3 3, (.agg (arr .u8 S)), undef, undef, undef, undef, undef, undef, undef, undef, undef, undef], defers := [] } := frame_ext h.size h.defers (.cons (h.kept 0 (by kernel_rfl)) (.cons (h.kept 1 (by kernel_rfl)) (.cons (h.kept 2 (by kernel_rfl)) (.cons (h.kept 3 (by kernel_rfl)) (.cons (h.kept 4 (by kernel_rfl)) (.cons (h.kept 5 (by kernel_rfl)) (.cons (h.kept 6 (by kernel_rfl)) (.cons (h.kept 7 (by kernel_rfl)) (.cons f13 (.cons f14 (.cons (h.kept 10 (by kernel_rfl)) (.cons (h.kept 11 (by kernel_rfl)) (.cons (h.kept 12 (by kernel_rfl)) (.cons (h.kept 13 (by kernel_rfl)) (.cons (h.kept 14 (by kernel_rfl)) (.cons (h.kept 15 (by kernel_rfl)) (.cons (h.kept 16 (by kernel_rfl)) (.cons (h.kept 17 (by kernel_rfl)) (.cons (h.kept 18 (by kernel_rfl)) (.cons (h.kept 19 (by kernel_rfl)) (.cons (h.kept 20 (by kernel_rfl)) (.cons (h.kept 21 (by kernel_rfl)) (.cons (h.kept 22 (by kernel_rfl)) (.cons (h.kept 23 (by kernel_rfl)) (.cons (h.kept 24 (by kernel_rfl)) (.cons (h.kept 25 (by kernel_rfl)) (.cons f0 (.cons f1 (.cons f2 (.cons f3 (.cons f4 (.cons f5 (.cons f6 (.cons f7 (.cons f8 (.cons f9 (.cons f10 (.cons f11 (.cons f12 (.cons (h.kept 39 (by kernel_rfl)) (.cons (h.kept 40 (by kernel_rfl)) (.cons (h.kept 41 (by kernel_rfl)) (.cons (h.kept 42 (by kernel_rfl)) (.cons (h.kept 43 (by kernel_rfl)) (.cons (h.kept 44 (by kernel_rfl)) (.cons (h.kept 45 (by kernel_rfl)) (.cons (h.kept 46 (by kernel_rfl)) (.cons (h.kept 47 (by kernel_rfl)) (.cons (h.kept 48 (by kernel_rfl)) (.nil))))))))))))))))))))))))))))))))))))))))))))))))))
    have hbel := h.below
    have hap : g13_ ≠ g14_ := fun e => h.apart 13 14 (by decide) (by decide) (by decide) trivial trivial rfl rfl (by show blk (a.eval (.tmp 8)) = blk (a.eval (.tmp 9)); rw [f13, f14, e])
    have hn13 : w1.heap.size ≤ g13_ := by
      obtain ⟨g, h1, h2, _⟩ := h.new 13 (by decide) trivial rfl
      have h1' : blk (a.eval (.tmp 8)) = some g := h1
      rw [f13] at h1'
      injection h1' with h1'
      subst h1'
      exact h2
    have hn14 : w1.heap.size ≤ g14_ := by
      obtain ⟨g, h1, h2, _⟩ := h.new 14 (by decide) trivial rfl
      have h1' : blk (a.eval (.tmp 9)) = some g := h1
      rw [f14] at h1'
      injection h1' with h1'
      subst h1'
      exact h2
    subst ha
    clear h
    show wpAny _ _ _ _ 2 _ _ _
    refine any_store 15 (by rfl) (by kernel_rfl) (by kernel_rfl) (by kernel_rfl) 38 (.tmp 8) (.tmp 29) (by kernel_rfl) g13_ (by kernel_rfl) (arr .u8 S) (by kernel_rfl) (by rw [arr_size, HSL.out]; kernel_rfl) (arr .u8 (List.replicate 32 0)) 38 b13 (by rw [arr_size, arr_size, HSL.out]; rfl) (arr_one _ _) ?_
    intro w6 hbw6 huw6
    refine any_store 16 (by rfl) (by kernel_rfl) (by kernel_rfl) (by kernel_rfl) 38 (.tmp 9) (.tmp 38) (by kernel_rfl) g14_ (by kernel_rfl) (arr .u8 S) (by kernel_rfl) (by rw [arr_size, HSL.out]; kernel_rfl) (arr .u8 (List.replicate 32 0)) 38 ((huw6.block g14_ (Ne.symm hap)).trans b14) (by rw [arr_size, arr_size, HSL.out]; rfl) (arr_one _ _) ?_
    intro w7 hbw7 huw7
    refine wpAny_done (by kernel_rfl) ?_ _
    have HB13 := Aside0.mk ((huw7.block g13_ hap).trans hbw6)
    have HB14 := Aside0.mk hbw7
    have hbe := huw7.below (huw6.below ((below_drew (Below.refl _ _)).trans hbel) hn13) hn14
    have HC7 := Aside0.mk (Kd.C_below HC.out hbe)
    have HCM7 := Aside0.mk (Kd.C_below HCM.out hbe)
    have HBE := Aside0.mk (below_step HBA.out hbe)
    clear hbel hbe hap hn13 hn14 hbw6 hbw7 huw6 huw7 b13 b14 b2 b11 f0 f1 f2 f3 f4 f5 f6 f7 f8 f9 f10 f11 f12 f13 f14
    go_wp2
    refine region_facts (by kernel_rfl) (getS [fun v _ => v = (.slice (some ⟨g13_, 0, none⟩) 32 32), fun v _ => v = (.slice A key.length c), fun v _ => v = (.slice A2 m.length c2), fun v w => ∃ A c, v = .slice A (S).length c ∧ (S).length ≤ c ∧ Kd.C (Kd.int .u8) w A (S).length (S), fun v _ => v = (.bool true), fun v _ => v = (.bool true), fun v _ => v = (.agg (arr .u8 S)), fun v _ => v = (.agg (arr .u8 S)), fun v _ => v = (.bool true), fun v _ => v = (.bool true), fun v _ => v = (.bool true)]) (fun _ => false) 11 (by kernel_rfl) (AllStab.spec (.cons (stab_val _) (.cons (stab_val _) (.cons (stab_val _) (.cons (stab_C _ _) (.cons (stab_val _) (.cons (stab_val _) (.cons (stab_val _) (.cons (stab_val _) (.cons (stab_val _) (.cons (stab_val _) (.cons (stab_val _) .nil)))))))))))) (dst_of (by kernel_rfl)) (EachOp.of ?rop7_7) ?rfin7_7
    case rop7_7 =>
      refine .cons (fun did a W h hd => ?_) ?_
      · have k8 : a.eval (.tmp 8) = .pointer (some ⟨g13_, 0, none⟩) := h.kept 8 (by kernel_rfl)
        exact A_cutarr (wanted_none rfl) 38 5 32 (.tmp 8) rfl Try.underlying38 (by kernel_rfl) g13_ k8 rfl rfl
      refine .cons (fun did a W h hd => ?_) ?_
      · have k0 : a.eval (.tmp 0) = .slice A key.length c := h.kept 0 (by kernel_rfl)
        exact A_move (wanted_none rfl) _ rfl ((.slice A key.length c)) k0 rfl rfl
      refine .cons (fun did a W h hd => ?_) ?_
      · have k1 : a.eval (.tmp 1) = .slice A2 m.length c2 := h.kept 1 (by kernel_rfl)
        exact A_move (wanted_none rfl) _ rfl ((.slice A2 m.length c2)) k1 rfl rfl
      refine .cons (fun did a W h hd => ?_) ?_
      · have f1 : a.eval (.tmp 40) = (.slice A key.length c) := h.fact 1 (by decide) (hd 1 (by kernel_rfl))
        have f2 : a.eval (.tmp 41) = (.slice A2 m.length c2) := h.fact 2 (by decide) (hd 2 (by kernel_rfl))
        exact A_call (wanted_none rfl) 29 #[.tmp 40, .tmp 41] #[24, 24] rfl #[.slice A key.length c, .slice A2 m.length c2] (by simp only [List.map_toArray, List.map_cons, List.map_nil, f1, f2] <;> rfl) (by kernel_rfl) ((HCALL3.out _ (Kd.C_below HC7.out (below_drewK h.below)) (Kd.C_below HCM7.out (below_drewK h.below))).mono fun e w' ⟨A, c, h1, h2, h3, h4⟩ => ⟨_, h1, h4, A, c, rfl, h2, h3⟩) rfl
      refine .cons (fun did a W h hd => ?_) ?_
      · have f0 : a.eval (.tmp 39) = (.slice (some ⟨g13_, 0, none⟩) 32 32) := h.fact 0 (by decide) (hd 0 (by kernel_rfl))
        obtain ⟨A3_s, c3_s, f3, l3, b3⟩ : ∃ A c, a.eval (.tmp 42) = .slice A (S).length c ∧ (S).length ≤ c ∧ Kd.C (Kd.int .u8) W A (S).length (S) := h.fact 3 (by decide) (hd 3 (by kernel_rfl))
        exact A_call (wanted_none rfl) 18 #[.tmp 39, .tmp 42] #[24, 24] rfl #[.slice (some ⟨g13_, 0, none⟩) 32 32, .slice A3_s S.length c3_s] (by simp only [List.map_toArray, List.map_cons, List.map_nil, f0, f3] <;> rfl) (by kernel_rfl) ((HSAMEg.out _ A3_s c3_s g13_ ((h.below.block g13_ (blk_lt HB13.out)).trans HB13.out) b3 l3).mono fun e w' hh => ⟨_, hh.1, hh.2, rfl⟩) rfl
      refine .cons (fun did a W h hd => ?_) ?_
      · have f4 : a.eval (.tmp 43) = (.bool true) := h.fact 4 (by decide) (hd 4 (by kernel_rfl))
        exact A_move (wanted_none rfl) _ rfl ((.bool true)) f4 rfl rfl
      refine .cons (fun did a W h hd => ?_) ?_
      · have k8 : a.eval (.tmp 8) = .pointer (some ⟨g13_, 0, none⟩) := h.kept 8 (by kernel_rfl)
        have f5 : a.eval (.tmp 44) = (.bool true) := h.fact 5 (by decide) (hd 5 (by kernel_rfl))
        exact A_load (wanted_yes (j := 5) rfl rfl rfl f5) 38 (.tmp 8) rfl g13_ k8 38 (arr .u8 S) _ ((h.below.block g13_ (blk_lt HB13.out)).trans HB13.out) Try.underlying38 rfl (by rw [arr_size, HSL.out]; kernel_rfl) rfl rfl
      refine .cons (fun did a W h hd => ?_) ?_
      · have k9 : a.eval (.tmp 9) = .pointer (some ⟨g14_, 0, none⟩) := h.kept 9 (by kernel_rfl)
        have f5 : a.eval (.tmp 44) = (.bool true) := h.fact 5 (by decide) (hd 5 (by kernel_rfl))
        exact A_load (wanted_yes (j := 5) rfl rfl rfl f5) 38 (.tmp 9) rfl g14_ k9 38 (arr .u8 S) _ ((h.below.block g14_ (blk_lt HB14.out)).trans HB14.out) Try.underlying38 rfl (by rw [arr_size, HSL.out]; kernel_rfl) rfl rfl
      refine .cons (fun did a W h hd => ?_) ?_
      · have f5 : a.eval (.tmp 44) = (.bool true) := h.fact 5 (by decide) (hd 5 (by kernel_rfl))
        have f6 : a.eval (.tmp 45) = (.agg (arr .u8 S)) := h.fact 6 (by decide) (hd 6 (by kernel_rfl))
        have f7 : a.eval (.tmp 46) = (.agg (arr .u8 S)) := h.fact 7 (by decide) (hd 7 (by kernel_rfl))
        exact A_eqarr (wanted_yes (j := 5) rfl rfl rfl f5) 38 5 32 .u8 (.tmp 45) (.tmp 46) 38 rfl Try.underlying38 Try.underlying5 (by kernel_rfl) (by kernel_rfl) (S) (S) f6 f7 HSL.out HSL.out true (decide_eq_true rfl) rfl rfl
      refine .cons (fun did a W h hd => ?_) ?_
      · have f5 : a.eval (.tmp 44) = (.bool true) := h.fact 5 (by decide) (hd 5 (by kernel_rfl))
        have f8 : a.eval (.tmp 47) = (.bool true) := h.fact 8 (by decide) (hd 8 (by kernel_rfl))
        exact A_pick (wanted_none rfl) _ _ _ rfl _ f5 ((.bool true)) (by rw [if_pos rfl]; exact f8) rfl rfl
      refine .cons (fun did a W h hd => ?_) ?_
      · have f0 : a.eval (.tmp 39) = (.slice (some ⟨g13_, 0, none⟩) 32 32) := h.fact 0 (by decide) (hd 0 (by kernel_rfl))
        have f1 : a.eval (.tmp 40) = (.slice A key.length c) := h.fact 1 (by decide) (hd 1 (by kernel_rfl))
        have f2 : a.eval (.tmp 41) = (.slice A2 m.length c2) := h.fact 2 (by decide) (hd 2 (by kernel_rfl))
        obtain ⟨A3_s, c3_s, f3, l3, b3⟩ : ∃ A c, a.eval (.tmp 42) = .slice A (S).length c ∧ (S).length ≤ c ∧ Kd.C (Kd.int .u8) W A (S).length (S) := h.fact 3 (by decide) (hd 3 (by kernel_rfl))
        have f4 : a.eval (.tmp 43) = (.bool true) := h.fact 4 (by decide) (hd 4 (by kernel_rfl))
        have f5 : a.eval (.tmp 44) = (.bool true) := h.fact 5 (by decide) (hd 5 (by kernel_rfl))
        have f6 : a.eval (.tmp 45) = (.agg (arr .u8 S)) := h.fact 6 (by decide) (hd 6 (by kernel_rfl))
        have f7 : a.eval (.tmp 46) = (.agg (arr .u8 S)) := h.fact 7 (by decide) (hd 7 (by kernel_rfl))
        have f8 : a.eval (.tmp 47) = (.bool true) := h.fact 8 (by decide) (hd 8 (by kernel_rfl))
        have f9 : a.eval (.tmp 48) = (.bool true) := h.fact 9 (by decide) (hd 9 (by kernel_rfl))
        exact A_assign (wanted_none rfl) _ rfl ((.bool true)) f9 rfl rfl
      exact .nil
    case rfin7_7 =>
      intro a W h
      refine wpAny_done (by kernel_rfl) ?_ _
      have f0 : a.eval (.tmp 39) = (.slice (some ⟨g13_, 0, none⟩) 32 32) := h.fact 0 (by decide) trivial
      have f1 : a.eval (.tmp 40) = (.slice A key.length c) := h.fact 1 (by decide) trivial
      have f2 : a.eval (.tmp 41) = (.slice A2 m.length c2) := h.fact 2 (by decide) trivial
      obtain ⟨A3_s, c3_s, f3, l3, b3⟩ : ∃ A c, a.eval (.tmp 42) = .slice A (S).length c ∧ (S).length ≤ c ∧ Kd.C (Kd.int .u8) W A (S).length (S) := h.fact 3 (by decide) trivial
      have f4 : a.eval (.tmp 43) = (.bool true) := h.fact 4 (by decide) trivial
      have f5 : a.eval (.tmp 44) = (.bool true) := h.fact 5 (by decide) trivial
      have f6 : a.eval (.tmp 45) = (.agg (arr .u8 S)) := h.fact 6 (by decide) trivial
      have f7 : a.eval (.tmp 46) = (.agg (arr .u8 S)) := h.fact 7 (by decide) trivial
      have f8 : a.eval (.tmp 47) = (.bool true) := h.fact 8 (by decide) trivial
      have f9 : a.eval (.tmp 48) = (.bool true) := h.fact 9 (by decide) trivial
      have f10 : a.eval (.tmp 6) = (.bool true) := h.fact 10 (by decide) trivial
      have ha : a = { tmps := #[.slice A key.length c, .slice A2 m.length c2, .int .u16 cut, undef, undef, undef, (.bool true), .int .i64 (i : Int), .pointer (some ⟨g13_, 0, none⟩), .pointer (some ⟨g14_, 0, none⟩), .bool true, .bool false, .slice A key.length c, .int .i64 (key.length : Int), .bool (decide ((200 : Int) < (key.length : Int))), .bool (decide ((200 : Int) < (key.length : Int))), .slice A2 m.length c2, .int .i64 (m.length : Int), .bool (decide ((200 : Int) < (m.length : Int))), .bool (decide ((200 : Int) < (key.length : Int)) || decide ((200 : Int) < (m.length : Int))), .int .u16 cut, .int .i64 cut, .slice A2 m.length c2, .int .i64 (m.length : Int), .int .i64 ((m.length : Int) + 1), .int .i64 (i : Int), .slice A key.length c, .slice A2 m.length c2, .slice (some ⟨g2_, 0, none⟩) 1 1, (.agg (arr .u8 S)), .slice A key.length c, .slice A2 m.length c2, .int .i64 (i : Int), .slice A2 i c2, .slice A2 m.length c2, .int .i64 (i : Int), V, .slice (some ⟨g11_, 0, none⟩) 3 3, (.agg (arr .u8 S)), (.slice (some ⟨g13_, 0, none⟩) 32 32), (.slice A key.length c), (.slice A2 m.length c2), Value.slice A3_s (S).length c3_s, (.bool true), (.bool true), (.agg (arr .u8 S)), (.agg (arr .u8 S)), (.bool true), (.bool true)], defers := [] } := frame_ext h.size h.defers (.cons (h.kept 0 (by kernel_rfl)) (.cons (h.kept 1 (by kernel_rfl)) (.cons (h.kept 2 (by kernel_rfl)) (.cons (h.kept 3 (by kernel_rfl)) (.cons (h.kept 4 (by kernel_rfl)) (.cons (h.kept 5 (by kernel_rfl)) (.cons f10 (.cons (h.kept 7 (by kernel_rfl)) (.cons (h.kept 8 (by kernel_rfl)) (.cons (h.kept 9 (by kernel_rfl)) (.cons (h.kept 10 (by kernel_rfl)) (.cons (h.kept 11 (by kernel_rfl)) (.cons (h.kept 12 (by kernel_rfl)) (.cons (h.kept 13 (by kernel_rfl)) (.cons (h.kept 14 (by kernel_rfl)) (.cons (h.kept 15 (by kernel_rfl)) (.cons (h.kept 16 (by kernel_rfl)) (.cons (h.kept 17 (by kernel_rfl)) (.cons (h.kept 18 (by kernel_rfl)) (.cons (h.kept 19 (by kernel_rfl)) (.cons (h.kept 20 (by kernel_rfl)) (.cons (h.kept 21 (by kernel_rfl)) (.cons (h.kept 22 (by kernel_rfl)) (.cons (h.kept 23 (by kernel_rfl)) (.cons (h.kept 24 (by kernel_rfl)) (.cons (h.kept 25 (by kernel_rfl)) (.cons (h.kept 26 (by kernel_rfl)) (.cons (h.kept 27 (by kernel_rfl)) (.cons (h.kept 28 (by kernel_rfl)) (.cons (h.kept 29 (by kernel_rfl)) (.cons (h.kept 30 (by kernel_rfl)) (.cons (h.kept 31 (by kernel_rfl)) (.cons (h.kept 32 (by kernel_rfl)) (.cons (h.kept 33 (by kernel_rfl)) (.cons (h.kept 34 (by kernel_rfl)) (.cons (h.kept 35 (by kernel_rfl)) (.cons (h.kept 36 (by kernel_rfl)) (.cons (h.kept 37 (by kernel_rfl)) (.cons (h.kept 38 (by kernel_rfl)) (.cons f0 (.cons f1 (.cons f2 (.cons f3 (.cons f4 (.cons f5 (.cons f6 (.cons f7 (.cons f8 (.cons f9 (.nil))))))))))))))))))))))))))))))))))))))))))))))))))
      have hbel := h.below
      subst ha
      clear h
      go_wp2
      go_ret
      exact ⟨rfl, (below_drew HBE.out).trans (hbel.mono HBE.out.size)⟩
end Go.Proofs.Ythpkbamhpmgffaa.Sha

