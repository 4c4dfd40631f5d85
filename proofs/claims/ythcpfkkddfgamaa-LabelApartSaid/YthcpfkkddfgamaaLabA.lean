/- The walk of LabelApart: two lists of parts have one text just if they are alike; two names with numbers, if both are. No condition. -/
import Derived.Test.YthcpfkkddfgamaaAnyG
namespace Go.Proofs.Ythcpfkkddfgamaa.Sha
open Go.AnyFacts Go.RowKit Go.Proofs.YthcpfkkddfgamaaW.Hand Go.Proofs.YthcpfkkddfgamaaW.PrintWords Go.Proofs.YthcpfkkddfgamaaW.PrintLast Go.Proofs.YthcpfkkddfgamaaW.PrintMore Go.Proofs.Ythcpfkkddfgamaa.PF04A Go.Proofs.Ythcpfkkddfgamaa.Base Go.Proofs.Ythcpfkkddfgamaa.LF04A
set_option linter.unusedVariables false
set_option linter.unusedSimpArgs false

theorem arr_one (k : IntKind) (xs : List Int) : (arr k xs).all (·.oneCell') = true := by
  refine Array.all_eq_true_iff_forall_mem.2 (fun v hv => ?_)
  simp [arr] at hv
  obtain ⟨x, _, rfl⟩ := hv
  rfl
set_option maxHeartbeats 8000000 in
set_option maxRecDepth 100000 in
theorem LabelApart_calls (A : Option Addr) (c : Nat) (la : List (List Int)) (B : Option Addr) (d : Nat) (lb : List (List Int)) (p q r s : Int) (w : World) (hCA : Kd.C (Kd.slice 5 (Kd.int .u8)) w A la.length la) (hca : la.length ≤ c) (hba : ∀ x ∈ la, Bytes x) (hCB : Kd.C (Kd.slice 5 (Kd.int .u8)) w B lb.length lb) (hcb : lb.length ≤ d) (hbb : ∀ x ∈ lb, Bytes x) (hp : (Lit.int .i64 p).wf = true) (hq : (Lit.int .i64 q).wf = true) (hr : (Lit.int .i64 r).wf = true) (hs : (Lit.int .i64 s).wf = true) :
    Calls Try.prog 3 #[.agg #[.slice A la.length c, .slice B lb.length d], .agg #[.int .i64 p, .int .i64 q, .int .i64 r, .int .i64 s]] w fun e w' => e = .returned (.bool true) ∧ Below w.heap.size w w' := by
  have HCA0 := Aside0.mk hCA
  have HCB0 := Aside0.mk hCB
  have hawake : ∀ W : World, Calls Try.prog 14 #[] W fun e w' => e = .returned (.bool true) ∧ Below W.heap.size W w' := fun W => by
    obtain ⟨k, hk⟩ := awake04.rounds
    exact batonlaw04_awake.calls k true W hk
  have HA := Aside0.mk hawake
  obtain ⟨bt, hbt⟩ : ∃ bt, decide ([p, q] = [r, s]) = bt := ⟨_, rfl⟩
  have HB := Aside0.mk hbt
  have HUV := Aside0.mk (show decide (labelL { data := #[110, 97, 109, 101] } [p, q] = labelL { data := #[110, 97, 109, 101] } [r, s]) = bt by rw [← hbt, decide_eq_decide]; exact label2_inj _ (i64_of hp) (i64_of hq) (i64_of hr) (i64_of hs))
  obtain ⟨fa, hfa⟩ : ∃ fa, fa = decide (la.length ≤ 70 ∧ ∀ p ∈ la, p.length ≤ 100) := ⟨_, rfl⟩
  obtain ⟨fb, hfb⟩ : ∃ fb, fb = decide (lb.length ≤ 70 ∧ ∀ p ∈ lb, p.length ≤ 100) := ⟨_, rfl⟩
  have hfA : ∀ W, Kd.C (Kd.slice 5 (Kd.int .u8)) W A la.length la → Calls Try.prog 15 #[.slice A la.length c] W fun e w' => e = .returned (.bool fa) ∧ ∃ n, w' = W.drewN n := fun W h => by
    obtain ⟨k, hk⟩ := (few_ev la).rounds
    rw [← hfa] at hk
    exact (batonlaw04_few.calls k A c la fa W h hca hk).mono fun e w' hh => ⟨hh.1, hh.2.out⟩
  have hfB : ∀ W, Kd.C (Kd.slice 5 (Kd.int .u8)) W B lb.length lb → Calls Try.prog 15 #[.slice B lb.length d] W fun e w' => e = .returned (.bool fb) ∧ ∃ n, w' = W.drewN n := fun W h => by
    obtain ⟨k, hk⟩ := (few_ev lb).rounds
    rw [← hfb] at hk
    exact (batonlaw04_few.calls k B d lb fb W h hcb hk).mono fun e w' hh => ⟨hh.1, hh.2.out⟩
  have HFA := Aside0.mk hfA
  have HFB := Aside0.mk hfB
  have HBA_ := Aside0.mk hba
  have HBB_ := Aside0.mk hbb
  have HFAE := Aside0.mk hfa
  have HFBE := Aside0.mk hfb
  clear hCA hCB hawake hbt hp hq hr hs hfA hfB hfa hfb hba hbb
  go_enter Try.func3, Try.ntmps3
  go_wp2_with (first | ((with_reducible refine gate_dst (N := 2) rfl ?_); refine L_box rfl 23 (.tmp 0) rfl (.agg #[.slice A la.length c, .slice B lb.length d]) rfl ?_; intro g2 w1 hb2 hg2 hs2 hl2; have HB2 := Aside0.mk hb2; clear hb2; have HG2 := Aside0.mk hg2; clear hg2; have HS2 := Aside0.mk hs2; clear hs2; have HL2 := Aside0.mk hl2; clear hl2) | ((with_reducible refine gate_dst (N := 3) rfl ?_); refine L_box rfl 25 (.tmp 1) rfl (.agg #[.int .i64 p, .int .i64 q, .int .i64 r, .int .i64 s]) rfl ?_; intro g3 w2 hb3 hg3 hs3 hl3; have HB3 := Aside0.mk hb3; clear hb3; have HG3 := Aside0.mk hg3; clear hg3; have HS3 := Aside0.mk hs3; clear hs3; have HL3 := Aside0.mk hl3; clear hl3) | (go_at_call 14; refine (HA.out _).mono ?_; rintro e wa ⟨rfl, hba⟩; have HBA := Aside0.mk hba; clear hba))
  have HX2 := Aside0.mk ((HBA.out.block g2 (Nat.lt_of_lt_of_le (blk_lt HB2.out) HL3.out.size)).trans ((HL3.out.block g2 (blk_lt HB2.out)).trans HB2.out))
  have HX3 := Aside0.mk ((HBA.out.block g3 (blk_lt HB3.out)).trans HB3.out)
  have HBE := Aside0.mk (below_step (below_step HL2.out HL3.out) HBA.out)
  have HCA := Aside0.mk (Kd.C_below HCA0.out HBE.out)
  have HCB := Aside0.mk (Kd.C_below HCB0.out HBE.out)
  clear HB2 HG2 HS2 HL2 HB3 HG3 HS3 HL3 HBA HCA0 HCB0
  refine region_all2 (by kernel_rfl) (getS [fun v _ => v = (.pointer (some ⟨g2, 0, none⟩)), fun v _ => v = (.slice A la.length c), fun v _ => v = (.pointer (some ⟨g2, 1, none⟩)), fun v _ => v = (.slice B lb.length d), fun v _ => v = (.pointer (some ⟨g3, 0, none⟩)), fun v _ => v = (.agg (arr .i64 [p, q])), fun v _ => v = (.pointer (some ⟨g3, 2, none⟩)), fun v _ => v = (.agg (arr .i64 [r, s])), Shape 2 24, Shape 2 24, fun v _ => v = (.slice A la.length c), fun v _ => v = (.slice B lb.length d), Is (arr .i64 [p, q]) 24, Is (arr .i64 [r, s]) 24]) (fun i => [8, 9].contains i) (fun i => if i = 12 then some 8 else (if i = 13 then some 9 else (none))) (by kernel_rfl) (AllStab.spec (.cons (stab_val _) (.cons (stab_val _) (.cons (stab_val _) (.cons (stab_val _) (.cons (stab_val _) (.cons (stab_val _) (.cons (stab_val _) (.cons (stab_val _) (.cons (stab_shape _ _) (.cons (stab_shape _ _) (.cons (stab_val _) (.cons (stab_val _) (.cons (stab_is _ _) (.cons (stab_is _ _) .nil))))))))))))))) (.cons (.inl (fun v w w' h => h)) (.cons (.inl (fun v w w' h => h)) (.cons (.inl (fun v w w' h => h)) (.cons (.inl (fun v w w' h => h)) (.cons (.inl (fun v w w' h => h)) (.cons (.inl (fun v w w' h => h)) (.cons (.inl (fun v w w' h => h)) (.cons (.inl (fun v w w' h => h)) (.cons (firm_shape rfl rfl) (.cons (firm_shape rfl rfl) (.cons (.inl (fun v w w' h => h)) (.cons (.inl (fun v w w' h => h)) (.cons (firm_is (k := 0) rfl (.inr ⟨8, rfl, rfl⟩)) (.cons (firm_is (k := 0) rfl (.inr ⟨9, rfl, rfl⟩)) .nil)))))))))))))) (by kernel_rfl) (by kernel_rfl) ?rop3_3 ?rfin3_3
  case rop3_3 =>
    refine .cons (F2.norm rfl fun did a W h hd => ?_) ?_
    · have k2 : a.eval (.tmp 2) = .pointer (some ⟨g2, 0, none⟩) := h.kept 2 (by kernel_rfl)
      exact A_ixarrs (wanted_none rfl) 23 22 2 1 (.tmp 2) (.const (.int .i64 0)) rfl Try.underlying23 (by kernel_rfl) g2 k2 0 rfl (by decide) rfl rfl
    refine .cons (F2.norm rfl fun did a W h hd => ?_) ?_
    · have f0 : a.eval (.tmp 17) = (.pointer (some ⟨g2, 0, none⟩)) := h.fact 0 (by decide) (hd 0 (by kernel_rfl))
      exact A_load1 (wanted_none rfl) 22 _ rfl _ Try.underlying22 rfl ⟨g2, 0, none⟩ f0 _ ((blk_cell ((h.below.block g2 (blk_lt HX2.out)).trans HX2.out) 0).trans rfl) rfl rfl
    refine .cons (F2.norm rfl fun did a W h hd => ?_) ?_
    · have k2 : a.eval (.tmp 2) = .pointer (some ⟨g2, 0, none⟩) := h.kept 2 (by kernel_rfl)
      exact A_ixarrs (wanted_none rfl) 23 22 2 1 (.tmp 2) (.const (.int .i64 1)) rfl Try.underlying23 (by kernel_rfl) g2 k2 1 rfl (by decide) rfl rfl
    refine .cons (F2.norm rfl fun did a W h hd => ?_) ?_
    · have f2 : a.eval (.tmp 19) = (.pointer (some ⟨g2, 1, none⟩)) := h.fact 2 (by decide) (hd 2 (by kernel_rfl))
      exact A_load1 (wanted_none rfl) 22 _ rfl _ Try.underlying22 rfl ⟨g2, 1, none⟩ f2 _ ((blk_cell ((h.below.block g2 (blk_lt HX2.out)).trans HX2.out) 1).trans rfl) rfl rfl
    refine .cons (F2.norm rfl fun did a W h hd => ?_) ?_
    · have k3 : a.eval (.tmp 3) = .pointer (some ⟨g3, 0, none⟩) := h.kept 3 (by kernel_rfl)
      exact A_ixarrs (wanted_none rfl) 25 24 2 2 (.tmp 3) (.const (.int .i64 0)) rfl Try.underlying25 (by kernel_rfl) g3 k3 0 rfl (by decide) rfl rfl
    refine .cons (F2.norm rfl fun did a W h hd => ?_) ?_
    · have f4 : a.eval (.tmp 21) = (.pointer (some ⟨g3, 0, none⟩)) := h.fact 4 (by decide) (hd 4 (by kernel_rfl))
      exact A_load2 (wanted_none rfl) 24 _ rfl 2 3 Try.underlying24 (by kernel_rfl) g3 0 f4 _ _ ((blk_cell ((h.below.block g3 (blk_lt HX3.out)).trans HX3.out) 0).trans rfl) ((blk_cell ((h.below.block g3 (blk_lt HX3.out)).trans HX3.out) 1).trans rfl) rfl rfl
    refine .cons (F2.norm rfl fun did a W h hd => ?_) ?_
    · have k3 : a.eval (.tmp 3) = .pointer (some ⟨g3, 0, none⟩) := h.kept 3 (by kernel_rfl)
      exact A_ixarrs (wanted_none rfl) 25 24 2 2 (.tmp 3) (.const (.int .i64 1)) rfl Try.underlying25 (by kernel_rfl) g3 k3 1 rfl (by decide) rfl rfl
    refine .cons (F2.norm rfl fun did a W h hd => ?_) ?_
    · have f6 : a.eval (.tmp 23) = (.pointer (some ⟨g3, 2, none⟩)) := h.fact 6 (by decide) (hd 6 (by kernel_rfl))
      exact A_load2 (wanted_none rfl) 24 _ rfl 2 3 Try.underlying24 (by kernel_rfl) g3 2 f6 _ _ ((blk_cell ((h.below.block g3 (blk_lt HX3.out)).trans HX3.out) 2).trans rfl) ((blk_cell ((h.below.block g3 (blk_lt HX3.out)).trans HX3.out) 3).trans rfl) rfl rfl
    refine .cons (F2.norm rfl fun did a W h hd => ?_) ?_
    · exact A_alloc (wanted_none rfl) 24 rfl (.agg (arr .i64 [0, 0])) 2 (by kernel_rfl) (fun g w' h1 h2 => ⟨g, _, rfl, h1, rfl⟩)
    refine .cons (F2.norm rfl fun did a W h hd => ?_) ?_
    · exact A_alloc (wanted_none rfl) 24 rfl (.agg (arr .i64 [0, 0])) 2 (by kernel_rfl) (fun g w' h1 h2 => ⟨g, _, rfl, h1, rfl⟩)
    refine .cons (F2.norm rfl fun did a W h hd => ?_) ?_
    · have f1 : a.eval (.tmp 18) = (.slice A la.length c) := h.fact 1 (by decide) (hd 1 (by kernel_rfl))
      exact A_assign (wanted_none rfl) _ rfl ((.slice A la.length c)) f1 rfl rfl
    refine .cons (F2.norm rfl fun did a W h hd => ?_) ?_
    · have f3 : a.eval (.tmp 20) = (.slice B lb.length d) := h.fact 3 (by decide) (hd 3 (by kernel_rfl))
      exact A_assign (wanted_none rfl) _ rfl ((.slice B lb.length d)) f3 rfl rfl
    refine .cons (F2.store 8 rfl fun did a W h hd => ?_) ?_
    · have f5 : a.eval (.tmp 22) = (.agg (arr .i64 [p, q])) := h.fact 5 (by decide) (hd 5 (by kernel_rfl))
      obtain ⟨g8_, cs8, f8, b8, z8⟩ : ∃ g cs, a.eval (.tmp 7) = .pointer (some ⟨g, 0, none⟩) ∧ W.heap[g]? = some (.cells cs 24 (0, 0)) ∧ cs.size = 2 := h.fact 8 (by decide) (hd 8 (by kernel_rfl))
      exact A_store (wanted_none rfl) rfl 24 (.tmp 7) (.tmp 22) rfl g8_ f8 f8 (arr .i64 [p, q]) f5 24 cs8 b8 (by rw [z8]; rfl) (by kernel_rfl) (arr_one _ _) (fun w' h1 => ⟨⟨_, rfl, h1⟩, ⟨_, _, rfl, h1, rfl⟩⟩)
    refine .cons (F2.store 9 rfl fun did a W h hd => ?_) ?_
    · have f7 : a.eval (.tmp 24) = (.agg (arr .i64 [r, s])) := h.fact 7 (by decide) (hd 7 (by kernel_rfl))
      obtain ⟨g9_, cs9, f9, b9, z9⟩ : ∃ g cs, a.eval (.tmp 8) = .pointer (some ⟨g, 0, none⟩) ∧ W.heap[g]? = some (.cells cs 24 (0, 0)) ∧ cs.size = 2 := h.fact 9 (by decide) (hd 9 (by kernel_rfl))
      exact A_store (wanted_none rfl) rfl 24 (.tmp 8) (.tmp 24) rfl g9_ f9 f9 (arr .i64 [r, s]) f7 24 cs9 b9 (by rw [z9]; rfl) (by kernel_rfl) (arr_one _ _) (fun w' h1 => ⟨⟨_, rfl, h1⟩, ⟨_, _, rfl, h1, rfl⟩⟩)
    exact .nil
  case rfin3_3 =>
    intro a W h
    have f0 : a.eval (.tmp 17) = (.pointer (some ⟨g2, 0, none⟩)) := h.fact 0 (by decide) trivial
    have f1 : a.eval (.tmp 18) = (.slice A la.length c) := h.fact 1 (by decide) trivial
    have f2 : a.eval (.tmp 19) = (.pointer (some ⟨g2, 1, none⟩)) := h.fact 2 (by decide) trivial
    have f3 : a.eval (.tmp 20) = (.slice B lb.length d) := h.fact 3 (by decide) trivial
    have f4 : a.eval (.tmp 21) = (.pointer (some ⟨g3, 0, none⟩)) := h.fact 4 (by decide) trivial
    have f5 : a.eval (.tmp 22) = (.agg (arr .i64 [p, q])) := h.fact 5 (by decide) trivial
    have f6 : a.eval (.tmp 23) = (.pointer (some ⟨g3, 2, none⟩)) := h.fact 6 (by decide) trivial
    have f7 : a.eval (.tmp 24) = (.agg (arr .i64 [r, s])) := h.fact 7 (by decide) trivial
    have f10 : a.eval (.tmp 5) = (.slice A la.length c) := h.fact 10 (by decide) trivial
    have f11 : a.eval (.tmp 6) = (.slice B lb.length d) := h.fact 11 (by decide) trivial
    obtain ⟨g12_, f12, b12⟩ : ∃ g, a.eval (.tmp 7) = .pointer (some ⟨g, 0, none⟩) ∧ W.heap[g]? = some (.cells (arr .i64 [p, q]) 24 (0, 0)) := h.fact 12 (by decide) trivial
    obtain ⟨g13_, f13, b13⟩ : ∃ g, a.eval (.tmp 8) = .pointer (some ⟨g, 0, none⟩) ∧ W.heap[g]? = some (.cells (arr .i64 [r, s]) 24 (0, 0)) := h.fact 13 (by decide) trivial
    have ha : a = puts _ [(17, (.pointer (some ⟨g2, 0, none⟩))), (18, (.slice A la.length c)), (19, (.pointer (some ⟨g2, 1, none⟩))), (20, (.slice B lb.length d)), (21, (.pointer (some ⟨g3, 0, none⟩))), (22, (.agg (arr .i64 [p, q]))), (23, (.pointer (some ⟨g3, 2, none⟩))), (24, (.agg (arr .i64 [r, s]))), (7, .pointer (some ⟨g12_, 0, none⟩)), (8, .pointer (some ⟨g13_, 0, none⟩)), (5, (.slice A la.length c)), (6, (.slice B lb.length d))] := frame_puts _ h.size h.defers h.kept (by kernel_rfl) (.cons f0 (.cons f1 (.cons f2 (.cons f3 (.cons f4 (.cons f5 (.cons f6 (.cons f7 (.cons f12 (.cons f13 (.cons f10 (.cons f11 (.nil)))))))))))))
    have hbel := h.below
    have hap : g12_ ≠ g13_ := fun e => h.apart 8 9 (by decide) (by decide) (by decide) trivial trivial rfl rfl (by show blk (a.eval (.tmp 7)) = blk (a.eval (.tmp 8)); rw [f12, f13, e])
    subst ha
    simp only [puts, Act.put, List.setIfInBounds_toArray, List.set_cons_zero, List.set_cons_succ]
    clear h
    have HY7 := Aside0.mk b12
    have HY8 := Aside0.mk b13
    have HBE3 := Aside0.mk ((below_drew HBE.out).trans (hbel.mono HBE.out.size))
    have HCA3 := Aside0.mk (Kd.C_below HCA.out (below_of_drew hbel))
    have HCB3 := Aside0.mk (Kd.C_below HCB.out (below_of_drew hbel))
    clear hbel hap b12 b13 f0 f1 f2 f3 f4 f5 f6 f7 f10 f11 f12 f13 HCA HCB HBE
    rename_i W3
    cases fa with
    | false =>
      go_wp2_with (go_at_call 15; first | ((with_reducible refine (HFA.out _ (HCA3.out)).mono ?_); rintro e wf ⟨rfl, n1, rfl⟩) | ((with_reducible refine (HFB.out _ (Kd.C_drewN HCB3.out _)).mono ?_); rintro e wf ⟨rfl, n2, rfl⟩))
      go_ret
      exact ⟨rfl, pw_below_drewN HBE3.out _⟩
    | true =>
    cases fb with
    | false =>
      go_wp2_with (go_at_call 15; first | ((with_reducible refine (HFA.out _ (HCA3.out)).mono ?_); rintro e wf ⟨rfl, n1, rfl⟩) | ((with_reducible refine (HFB.out _ (Kd.C_drewN HCB3.out _)).mono ?_); rintro e wf ⟨rfl, n2, rfl⟩))
      go_ret
      exact ⟨rfl, pw_below_drewN HBE3.out _⟩
    | true =>
    by_cases h1 : la.length > 64
    · go_wp2_with (go_at_call 15; first | ((with_reducible refine (HFA.out _ (HCA3.out)).mono ?_); rintro e wf ⟨rfl, n1, rfl⟩) | ((with_reducible refine (HFB.out _ (Kd.C_drewN HCB3.out _)).mono ?_); rintro e wf ⟨rfl, n2, rfl⟩))
      go_ret
      exact ⟨rfl, pw_below_drewN HBE3.out _⟩
    by_cases h2 : lb.length > 64
    · go_wp2_with (go_at_call 15; first | ((with_reducible refine (HFA.out _ (HCA3.out)).mono ?_); rintro e wf ⟨rfl, n1, rfl⟩) | ((with_reducible refine (HFB.out _ (Kd.C_drewN HCB3.out _)).mono ?_); rintro e wf ⟨rfl, n2, rfl⟩))
      go_ret
      exact ⟨rfl, pw_below_drewN HBE3.out _⟩
    obtain ⟨ha1, ha2⟩ := of_decide_eq_true HFAE.out.symm
    obtain ⟨hb1, hb2⟩ := of_decide_eq_true HFBE.out.symm
    have hpa : ∀ p ∈ la, p.length ≤ 1048576 := fun p h => by have := ha2 p h; omega
    have hpb : ∀ p ∈ lb, p.length ≤ 1048576 := fun p h => by have := hb2 p h; omega
    have hela := enc_len la hpa
    have helb := enc_len lb hpb
    obtain ⟨S, hS⟩ : ∃ S, S = (la.length : Int) :: enc la := ⟨_, rfl⟩
    obtain ⟨T, hT⟩ : ∃ T, T = (lb.length : Int) :: enc lb := ⟨_, rfl⟩
    have hSl : S.length ≤ 1000000000 := by rw [hS, List.length_cons]; omega
    have hTl : T.length ≤ 1000000000 := by rw [hT, List.length_cons]; omega
    obtain ⟨e0, he0⟩ : ∃ e0, decide (la = lb) = e0 := ⟨_, rfl⟩
    have hST : decide (S = T) = e0 := by
      rw [← he0, decide_eq_decide, hS, hT]
      constructor
      · intro h
        injection h with x1 x2
        exact enc_inj la lb (by omega) hpa hpb x2
      · rintro rfl
        rfl
    have hjA : ∀ W, Kd.C (Kd.slice 5 (Kd.int .u8)) W A la.length la → Calls Try.prog 16 #[.slice A la.length c] W fun e w' => ∃ Aj cj, e = .returned (.tuple #[.slice Aj S.length cj, .int .i64 0]) ∧ S.length ≤ cj ∧ Kd.C (Kd.int .u8) w' Aj S.length S ∧ Below W.heap.size W w' := fun W h => by
      obtain ⟨k, hk⟩ := (Join_ev la (by omega) hpa).rounds
      rw [← hS] at hk
      refine (label_Join.calls k A c la S 0 W h hca hk).mono ?_
      rintro e w' ⟨v, rfl, hR, hb⟩
      obtain ⟨Aj, cj, rfl, x1, x2⟩ := Kd.R_reads hR
      exact ⟨Aj, cj, rfl, x1, x2, hb⟩
    have hjB : ∀ W, Kd.C (Kd.slice 5 (Kd.int .u8)) W B lb.length lb → Calls Try.prog 16 #[.slice B lb.length d] W fun e w' => ∃ Aj cj, e = .returned (.tuple #[.slice Aj T.length cj, .int .i64 0]) ∧ T.length ≤ cj ∧ Kd.C (Kd.int .u8) w' Aj T.length T ∧ Below W.heap.size W w' := fun W h => by
      obtain ⟨k, hk⟩ := (Join_ev lb (by omega) hpb).rounds
      rw [← hT] at hk
      refine (label_Join.calls k B d lb T 0 W h hcb hk).mono ?_
      rintro e w' ⟨v, rfl, hR, hb⟩
      obtain ⟨Aj, cj, rfl, x1, x2⟩ := Kd.R_reads hR
      exact ⟨Aj, cj, rfl, x1, x2, hb⟩
    have h17 : ∀ W AS cS AT cT, S.length ≤ cS → Kd.C (Kd.int .u8) W AS S.length S → T.length ≤ cT → Kd.C (Kd.int .u8) W AT T.length T → Calls Try.prog 17 #[.slice AS S.length cS, .slice AT T.length cT] W fun e w' => e = .returned (.bool e0) ∧ Below W.heap.size W w' := fun W AS cS AT cT x1 x2 x3 x4 => sameB_calls AS cS S AT cT T e0 W x2 x1 x4 x3 (by omega) hST
    have h18 : ∀ W, Kd.C (Kd.slice 5 (Kd.int .u8)) W A la.length la → Kd.C (Kd.slice 5 (Kd.int .u8)) W B lb.length lb → Calls Try.prog 18 #[.slice A la.length c, .slice B lb.length d] W fun e w' => e = .returned (.bool e0) ∧ Below W.heap.size W w' := fun W x1 x2 => by
      obtain ⟨k, hk⟩ := (same_ev la lb (by omega) (fun p h => by have := ha2 p h; omega)).rounds
      rw [he0] at hk
      exact (batonlaw04_same.calls k A c la B d lb e0 W x1 hca x2 hcb hk).mono fun e w' hh => ⟨hh.1, hh.2.below⟩
    have HJA := Aside0.mk hjA
    have HJB := Aside0.mk hjB
    have H17 := Aside0.mk h17
    have H18 := Aside0.mk h18
    have HSL := Aside0.mk hSl
    have HTL := Aside0.mk hTl
    clear ha1 ha2 hb1 hb2 hpa hpb hela helb hS hT hSl hTl hST he0 hjA hjB h17 h18 HFAE HFBE
    cases e0
    all_goals
      go_wp2_with (first | (go_at_call 15; first | ((with_reducible refine (HFA.out _ (HCA3.out)).mono ?_); rintro e wf ⟨rfl, n1, rfl⟩) | ((with_reducible refine (HFB.out _ (Kd.C_drewN HCB3.out _)).mono ?_); rintro e wf ⟨rfl, n2, rfl⟩)) | (go_at_call 16; first | ((with_reducible refine (HJA.out _ (Kd.C_drewN HCA3.out _)).mono ?_); rintro e w6 ⟨AS, cS, rfl, hleS, hCS, hb6⟩; have HCS := Aside0.mk hCS; have HB6 := Aside0.mk hb6; clear hCS hb6) | ((with_reducible refine (HJB.out _ (Kd.C_below (Kd.C_drewN HCB3.out _) HB6.out)).mono ?_); rintro e w7 ⟨AT, cT, rfl, hleT, hCT, hb7⟩; have HCT := Aside0.mk hCT; have HB7 := Aside0.mk hb7; clear hCT hb7)) | (go_at_call 17; refine (H17.out _ AS cS AT cT hleS (Kd.C_below HCS.out HB7.out) hleT HCT.out).mono ?_; rintro e w8 ⟨rfl, hb8⟩; have HB8 := Aside0.mk hb8; clear hb8) | (go_at_call 18; refine (H18.out _ (Kd.C_below (Kd.C_below (Kd.C_below (Kd.C_drewN HCA3.out _) HB6.out) HB7.out) HB8.out) (Kd.C_below (Kd.C_below (Kd.C_below (Kd.C_drewN HCB3.out _) HB6.out) HB7.out) HB8.out)).mono ?_; rintro e w9 ⟨rfl, hb9⟩; have HB9 := Aside0.mk hb9; clear hb9))
      have HX6 := Aside0.mk (below_step (below_step (below_step HB6.out HB7.out) HB8.out) HB9.out)
      have hwd : Below W.heap.size W (W.drewN (n1 + n2)) := pw_below_drewN (Below.refl _ _) _
      have hall := hwd.trans (HX6.out.mono hwd.size)
      have HBE8 := Aside0.mk (below_step HBE3.out hall)
      have hz7 := (hall.block g12_ (blk_lt HY7.out)).trans HY7.out
      have hz8 := (hall.block g13_ (blk_lt HY8.out)).trans HY8.out
      clear HY7 HY8
      have HY7 := Aside0.mk hz7
      have HY8 := Aside0.mk hz8
      clear hz7 hz8 hall hwd HX6 HB6 HB7 HB8 HB9 HCS HCT HJA HJB H17 H18 HFA HFB HCA3 HCB3
      refine region_facts (by kernel_rfl) (getS [fun v _ => v = (.pointer (some ⟨g12_, 0, none⟩)), fun v _ => v = (.int .i64 p), fun v _ => v = (.pointer (some ⟨g12_, 1, none⟩)), fun v _ => v = (.int .i64 q), fun v w => ∃ g, v = .slice (some ⟨g, 0, none⟩) 2 2 ∧ w.heap[g]? = some (.cells (arr .i64 [p, q]) 3 (0, 0)), fun v w => ∃ A c, v = .slice A (labelL { data := #[110, 97, 109, 101] } [p, q]).length c ∧ (labelL { data := #[110, 97, 109, 101] } [p, q]).length ≤ c ∧ Kd.C (Kd.int .u8) w A (labelL { data := #[110, 97, 109, 101] } [p, q]).length (labelL { data := #[110, 97, 109, 101] } [p, q]), fun v _ => v = (.pointer (some ⟨g13_, 0, none⟩)), fun v _ => v = (.int .i64 r), fun v _ => v = (.pointer (some ⟨g13_, 1, none⟩)), fun v _ => v = (.int .i64 s), fun v w => ∃ g, v = .slice (some ⟨g, 0, none⟩) 2 2 ∧ w.heap[g]? = some (.cells (arr .i64 [r, s]) 3 (0, 0)), fun v w => ∃ A c, v = .slice A (labelL { data := #[110, 97, 109, 101] } [r, s]).length c ∧ (labelL { data := #[110, 97, 109, 101] } [r, s]).length ≤ c ∧ Kd.C (Kd.int .u8) w A (labelL { data := #[110, 97, 109, 101] } [r, s]).length (labelL { data := #[110, 97, 109, 101] } [r, s]), fun v w => ∃ A c, v = .slice A (labelL { data := #[110, 97, 109, 101] } [p, q]).length c ∧ (labelL { data := #[110, 97, 109, 101] } [p, q]).length ≤ c ∧ Kd.C (Kd.int .u8) w A (labelL { data := #[110, 97, 109, 101] } [p, q]).length (labelL { data := #[110, 97, 109, 101] } [p, q]), fun v w => ∃ A c, v = .slice A (labelL { data := #[110, 97, 109, 101] } [r, s]).length c ∧ (labelL { data := #[110, 97, 109, 101] } [r, s]).length ≤ c ∧ Kd.C (Kd.int .u8) w A (labelL { data := #[110, 97, 109, 101] } [r, s]).length (labelL { data := #[110, 97, 109, 101] } [r, s])]) (fun _ => false) 14 (by kernel_rfl) (AllStab.spec (.cons (stab_val _) (.cons (stab_val _) (.cons (stab_val _) (.cons (stab_val _) (.cons (stab_row _ _ _ _ _) (.cons (stab_C _ _) (.cons (stab_val _) (.cons (stab_val _) (.cons (stab_val _) (.cons (stab_val _) (.cons (stab_row _ _ _ _ _) (.cons (stab_C _ _) (.cons (stab_C _ _) (.cons (stab_C _ _) .nil))))))))))))))) (dst_of (by kernel_rfl)) (EachOp.of ?rop3_10) ?rfin3_10
      case rop3_10 =>
        refine .cons (fun did a W h hd => ?_) ?_
        · have k7 : a.eval (.tmp 7) = .pointer (some ⟨g12_, 0, none⟩) := h.kept 7 (by kernel_rfl)
          exact A_ixarr (wanted_none rfl) 24 3 2 (.tmp 7) (.const (.int .i64 0)) rfl Try.underlying24 (by kernel_rfl) g12_ k7 0 rfl (by decide) rfl rfl
        refine .cons (fun did a W h hd => ?_) ?_
        · have f0 : a.eval (.tmp 68) = (.pointer (some ⟨g12_, 0, none⟩)) := h.fact 0 (by decide) (hd 0 (by kernel_rfl))
          exact A_loadcell (wanted_none rfl) 3 _ rfl .i64 Try.underlying3 ⟨g12_, 0, none⟩ f0 _ ((blk_cell ((h.below.block g12_ (blk_lt HY7.out)).trans HY7.out) 0).trans rfl) rfl rfl
        refine .cons (fun did a W h hd => ?_) ?_
        · have k7 : a.eval (.tmp 7) = .pointer (some ⟨g12_, 0, none⟩) := h.kept 7 (by kernel_rfl)
          exact A_ixarr (wanted_none rfl) 24 3 2 (.tmp 7) (.const (.int .i64 1)) rfl Try.underlying24 (by kernel_rfl) g12_ k7 1 rfl (by decide) rfl rfl
        refine .cons (fun did a W h hd => ?_) ?_
        · have f2 : a.eval (.tmp 70) = (.pointer (some ⟨g12_, 1, none⟩)) := h.fact 2 (by decide) (hd 2 (by kernel_rfl))
          exact A_loadcell (wanted_none rfl) 3 _ rfl .i64 Try.underlying3 ⟨g12_, 1, none⟩ f2 _ ((blk_cell ((h.below.block g12_ (blk_lt HY7.out)).trans HY7.out) 1).trans rfl) rfl rfl
        refine .cons (fun did a W h hd => ?_) ?_
        · have f1 : a.eval (.tmp 69) = (.int .i64 p) := h.fact 1 (by decide) (hd 1 (by kernel_rfl))
          have f3 : a.eval (.tmp 71) = (.int .i64 q) := h.fact 3 (by decide) (hd 3 (by kernel_rfl))
          exact A_bslice (wanted_none rfl) 36 3 2 _ rfl Try.underlying36 [(0, .int .i64 p), (1, .int .i64 q)] (by simp only [List.map_toArray, List.map_cons, List.map_nil, f1, f3] <;> rfl) (arr .i64 [p, q]) (by kernel_rfl) (fun g w' h1 h2 => ⟨g, rfl, h1⟩)
        refine .cons (fun did a W h hd => ?_) ?_
        · obtain ⟨g4_, f4, b4⟩ : ∃ g, a.eval (.tmp 72) = .slice (some ⟨g, 0, none⟩) 2 2 ∧ W.heap[g]? = some (.cells (arr .i64 [p, q]) 3 (0, 0)) := h.fact 4 (by decide) (hd 4 (by kernel_rfl))
          exact A_call (wanted_none rfl) 19 #[.const (.string { data := #[110, 97, 109, 101] }), .tmp 72] #[9, 36] rfl #[.string { data := #[110, 97, 109, 101] }, .slice (some ⟨g4_, 0, none⟩) 2 2] (by simp only [List.map_toArray, List.map_cons, List.map_nil, f4] <;> rfl) (by kernel_rfl) ((Of_calls { data := #[110, 97, 109, 101] } (some ⟨g4_, 0, none⟩) 2 [p, q] _ (by decide) (C_arr (xs := [p, q]) b4 (by simp)) (by simp) (by simp)).mono fun e w' ⟨A, c, h1, h2, h3, h4⟩ => ⟨_, h1, h4, A, c, rfl, h2, h3⟩) rfl
        refine .cons (fun did a W h hd => ?_) ?_
        · have k8 : a.eval (.tmp 8) = .pointer (some ⟨g13_, 0, none⟩) := h.kept 8 (by kernel_rfl)
          exact A_ixarr (wanted_none rfl) 24 3 2 (.tmp 8) (.const (.int .i64 0)) rfl Try.underlying24 (by kernel_rfl) g13_ k8 0 rfl (by decide) rfl rfl
        refine .cons (fun did a W h hd => ?_) ?_
        · have f6 : a.eval (.tmp 74) = (.pointer (some ⟨g13_, 0, none⟩)) := h.fact 6 (by decide) (hd 6 (by kernel_rfl))
          exact A_loadcell (wanted_none rfl) 3 _ rfl .i64 Try.underlying3 ⟨g13_, 0, none⟩ f6 _ ((blk_cell ((h.below.block g13_ (blk_lt HY8.out)).trans HY8.out) 0).trans rfl) rfl rfl
        refine .cons (fun did a W h hd => ?_) ?_
        · have k8 : a.eval (.tmp 8) = .pointer (some ⟨g13_, 0, none⟩) := h.kept 8 (by kernel_rfl)
          exact A_ixarr (wanted_none rfl) 24 3 2 (.tmp 8) (.const (.int .i64 1)) rfl Try.underlying24 (by kernel_rfl) g13_ k8 1 rfl (by decide) rfl rfl
        refine .cons (fun did a W h hd => ?_) ?_
        · have f8 : a.eval (.tmp 76) = (.pointer (some ⟨g13_, 1, none⟩)) := h.fact 8 (by decide) (hd 8 (by kernel_rfl))
          exact A_loadcell (wanted_none rfl) 3 _ rfl .i64 Try.underlying3 ⟨g13_, 1, none⟩ f8 _ ((blk_cell ((h.below.block g13_ (blk_lt HY8.out)).trans HY8.out) 1).trans rfl) rfl rfl
        refine .cons (fun did a W h hd => ?_) ?_
        · have f7 : a.eval (.tmp 75) = (.int .i64 r) := h.fact 7 (by decide) (hd 7 (by kernel_rfl))
          have f9 : a.eval (.tmp 77) = (.int .i64 s) := h.fact 9 (by decide) (hd 9 (by kernel_rfl))
          exact A_bslice (wanted_none rfl) 36 3 2 _ rfl Try.underlying36 [(0, .int .i64 r), (1, .int .i64 s)] (by simp only [List.map_toArray, List.map_cons, List.map_nil, f7, f9] <;> rfl) (arr .i64 [r, s]) (by kernel_rfl) (fun g w' h1 h2 => ⟨g, rfl, h1⟩)
        refine .cons (fun did a W h hd => ?_) ?_
        · obtain ⟨A5_, c5_, f5, l5, b5⟩ : ∃ A c, a.eval (.tmp 73) = .slice A (labelL { data := #[110, 97, 109, 101] } [p, q]).length c ∧ (labelL { data := #[110, 97, 109, 101] } [p, q]).length ≤ c ∧ Kd.C (Kd.int .u8) W A (labelL { data := #[110, 97, 109, 101] } [p, q]).length (labelL { data := #[110, 97, 109, 101] } [p, q]) := h.fact 5 (by decide) (hd 5 (by kernel_rfl))
          obtain ⟨g10_, f10, b10⟩ : ∃ g, a.eval (.tmp 78) = .slice (some ⟨g, 0, none⟩) 2 2 ∧ W.heap[g]? = some (.cells (arr .i64 [r, s]) 3 (0, 0)) := h.fact 10 (by decide) (hd 10 (by kernel_rfl))
          exact A_call (wanted_none rfl) 19 #[.const (.string { data := #[110, 97, 109, 101] }), .tmp 78] #[9, 36] rfl #[.string { data := #[110, 97, 109, 101] }, .slice (some ⟨g10_, 0, none⟩) 2 2] (by simp only [List.map_toArray, List.map_cons, List.map_nil, f10] <;> rfl) (by kernel_rfl) ((Of_calls { data := #[110, 97, 109, 101] } (some ⟨g10_, 0, none⟩) 2 [r, s] _ (by decide) (C_arr (xs := [r, s]) b10 (by simp)) (by simp) (by simp)).mono fun e w' ⟨A, c, h1, h2, h3, h4⟩ => ⟨_, h1, h4, A, c, rfl, h2, h3⟩) rfl
        refine .cons (fun did a W h hd => ?_) ?_
        · have f0 : a.eval (.tmp 68) = (.pointer (some ⟨g12_, 0, none⟩)) := h.fact 0 (by decide) (hd 0 (by kernel_rfl))
          have f1 : a.eval (.tmp 69) = (.int .i64 p) := h.fact 1 (by decide) (hd 1 (by kernel_rfl))
          have f2 : a.eval (.tmp 70) = (.pointer (some ⟨g12_, 1, none⟩)) := h.fact 2 (by decide) (hd 2 (by kernel_rfl))
          have f3 : a.eval (.tmp 71) = (.int .i64 q) := h.fact 3 (by decide) (hd 3 (by kernel_rfl))
          obtain ⟨g4_, f4, b4⟩ : ∃ g, a.eval (.tmp 72) = .slice (some ⟨g, 0, none⟩) 2 2 ∧ W.heap[g]? = some (.cells (arr .i64 [p, q]) 3 (0, 0)) := h.fact 4 (by decide) (hd 4 (by kernel_rfl))
          obtain ⟨A5_, c5_, f5, l5, b5⟩ : ∃ A c, a.eval (.tmp 73) = .slice A (labelL { data := #[110, 97, 109, 101] } [p, q]).length c ∧ (labelL { data := #[110, 97, 109, 101] } [p, q]).length ≤ c ∧ Kd.C (Kd.int .u8) W A (labelL { data := #[110, 97, 109, 101] } [p, q]).length (labelL { data := #[110, 97, 109, 101] } [p, q]) := h.fact 5 (by decide) (hd 5 (by kernel_rfl))
          obtain ⟨A11_, c11_, f11, l11, b11⟩ : ∃ A c, a.eval (.tmp 79) = .slice A (labelL { data := #[110, 97, 109, 101] } [r, s]).length c ∧ (labelL { data := #[110, 97, 109, 101] } [r, s]).length ≤ c ∧ Kd.C (Kd.int .u8) W A (labelL { data := #[110, 97, 109, 101] } [r, s]).length (labelL { data := #[110, 97, 109, 101] } [r, s]) := h.fact 11 (by decide) (hd 11 (by kernel_rfl))
          exact A_assign (wanted_none rfl) _ rfl _ f5 ⟨_, _, rfl, l5, b5⟩ rfl
        refine .cons (fun did a W h hd => ?_) ?_
        · have f0 : a.eval (.tmp 68) = (.pointer (some ⟨g12_, 0, none⟩)) := h.fact 0 (by decide) (hd 0 (by kernel_rfl))
          have f1 : a.eval (.tmp 69) = (.int .i64 p) := h.fact 1 (by decide) (hd 1 (by kernel_rfl))
          have f2 : a.eval (.tmp 70) = (.pointer (some ⟨g12_, 1, none⟩)) := h.fact 2 (by decide) (hd 2 (by kernel_rfl))
          have f3 : a.eval (.tmp 71) = (.int .i64 q) := h.fact 3 (by decide) (hd 3 (by kernel_rfl))
          obtain ⟨g4_, f4, b4⟩ : ∃ g, a.eval (.tmp 72) = .slice (some ⟨g, 0, none⟩) 2 2 ∧ W.heap[g]? = some (.cells (arr .i64 [p, q]) 3 (0, 0)) := h.fact 4 (by decide) (hd 4 (by kernel_rfl))
          obtain ⟨A5_, c5_, f5, l5, b5⟩ : ∃ A c, a.eval (.tmp 73) = .slice A (labelL { data := #[110, 97, 109, 101] } [p, q]).length c ∧ (labelL { data := #[110, 97, 109, 101] } [p, q]).length ≤ c ∧ Kd.C (Kd.int .u8) W A (labelL { data := #[110, 97, 109, 101] } [p, q]).length (labelL { data := #[110, 97, 109, 101] } [p, q]) := h.fact 5 (by decide) (hd 5 (by kernel_rfl))
          have f6 : a.eval (.tmp 74) = (.pointer (some ⟨g13_, 0, none⟩)) := h.fact 6 (by decide) (hd 6 (by kernel_rfl))
          have f7 : a.eval (.tmp 75) = (.int .i64 r) := h.fact 7 (by decide) (hd 7 (by kernel_rfl))
          have f8 : a.eval (.tmp 76) = (.pointer (some ⟨g13_, 1, none⟩)) := h.fact 8 (by decide) (hd 8 (by kernel_rfl))
          have f9 : a.eval (.tmp 77) = (.int .i64 s) := h.fact 9 (by decide) (hd 9 (by kernel_rfl))
          obtain ⟨g10_, f10, b10⟩ : ∃ g, a.eval (.tmp 78) = .slice (some ⟨g, 0, none⟩) 2 2 ∧ W.heap[g]? = some (.cells (arr .i64 [r, s]) 3 (0, 0)) := h.fact 10 (by decide) (hd 10 (by kernel_rfl))
          obtain ⟨A11_, c11_, f11, l11, b11⟩ : ∃ A c, a.eval (.tmp 79) = .slice A (labelL { data := #[110, 97, 109, 101] } [r, s]).length c ∧ (labelL { data := #[110, 97, 109, 101] } [r, s]).length ≤ c ∧ Kd.C (Kd.int .u8) W A (labelL { data := #[110, 97, 109, 101] } [r, s]).length (labelL { data := #[110, 97, 109, 101] } [r, s]) := h.fact 11 (by decide) (hd 11 (by kernel_rfl))
          obtain ⟨A12_, c12_, f12, l12, b12⟩ : ∃ A c, a.eval (.tmp 13) = .slice A (labelL { data := #[110, 97, 109, 101] } [p, q]).length c ∧ (labelL { data := #[110, 97, 109, 101] } [p, q]).length ≤ c ∧ Kd.C (Kd.int .u8) W A (labelL { data := #[110, 97, 109, 101] } [p, q]).length (labelL { data := #[110, 97, 109, 101] } [p, q]) := h.fact 12 (by decide) (hd 12 (by kernel_rfl))
          exact A_assign (wanted_none rfl) _ rfl _ f11 ⟨_, _, rfl, l11, b11⟩ rfl
        exact .nil
      case rfin3_10 =>
        intro a W h
        refine wpAny_done (by kernel_rfl) ?_ _
        have f0 : a.eval (.tmp 68) = (.pointer (some ⟨g12_, 0, none⟩)) := h.fact 0 (by decide) trivial
        have f1 : a.eval (.tmp 69) = (.int .i64 p) := h.fact 1 (by decide) trivial
        have f2 : a.eval (.tmp 70) = (.pointer (some ⟨g12_, 1, none⟩)) := h.fact 2 (by decide) trivial
        have f3 : a.eval (.tmp 71) = (.int .i64 q) := h.fact 3 (by decide) trivial
        obtain ⟨g4_, f4, b4⟩ : ∃ g, a.eval (.tmp 72) = .slice (some ⟨g, 0, none⟩) 2 2 ∧ W.heap[g]? = some (.cells (arr .i64 [p, q]) 3 (0, 0)) := h.fact 4 (by decide) trivial
        obtain ⟨A5_, c5_, f5, l5, b5⟩ : ∃ A c, a.eval (.tmp 73) = .slice A (labelL { data := #[110, 97, 109, 101] } [p, q]).length c ∧ (labelL { data := #[110, 97, 109, 101] } [p, q]).length ≤ c ∧ Kd.C (Kd.int .u8) W A (labelL { data := #[110, 97, 109, 101] } [p, q]).length (labelL { data := #[110, 97, 109, 101] } [p, q]) := h.fact 5 (by decide) trivial
        have f6 : a.eval (.tmp 74) = (.pointer (some ⟨g13_, 0, none⟩)) := h.fact 6 (by decide) trivial
        have f7 : a.eval (.tmp 75) = (.int .i64 r) := h.fact 7 (by decide) trivial
        have f8 : a.eval (.tmp 76) = (.pointer (some ⟨g13_, 1, none⟩)) := h.fact 8 (by decide) trivial
        have f9 : a.eval (.tmp 77) = (.int .i64 s) := h.fact 9 (by decide) trivial
        obtain ⟨g10_, f10, b10⟩ : ∃ g, a.eval (.tmp 78) = .slice (some ⟨g, 0, none⟩) 2 2 ∧ W.heap[g]? = some (.cells (arr .i64 [r, s]) 3 (0, 0)) := h.fact 10 (by decide) trivial
        obtain ⟨A11_, c11_, f11, l11, b11⟩ : ∃ A c, a.eval (.tmp 79) = .slice A (labelL { data := #[110, 97, 109, 101] } [r, s]).length c ∧ (labelL { data := #[110, 97, 109, 101] } [r, s]).length ≤ c ∧ Kd.C (Kd.int .u8) W A (labelL { data := #[110, 97, 109, 101] } [r, s]).length (labelL { data := #[110, 97, 109, 101] } [r, s]) := h.fact 11 (by decide) trivial
        obtain ⟨A12_, c12_, f12, l12, b12⟩ : ∃ A c, a.eval (.tmp 13) = .slice A (labelL { data := #[110, 97, 109, 101] } [p, q]).length c ∧ (labelL { data := #[110, 97, 109, 101] } [p, q]).length ≤ c ∧ Kd.C (Kd.int .u8) W A (labelL { data := #[110, 97, 109, 101] } [p, q]).length (labelL { data := #[110, 97, 109, 101] } [p, q]) := h.fact 12 (by decide) trivial
        obtain ⟨A13_, c13_, f13, l13, b13⟩ : ∃ A c, a.eval (.tmp 14) = .slice A (labelL { data := #[110, 97, 109, 101] } [r, s]).length c ∧ (labelL { data := #[110, 97, 109, 101] } [r, s]).length ≤ c ∧ Kd.C (Kd.int .u8) W A (labelL { data := #[110, 97, 109, 101] } [r, s]).length (labelL { data := #[110, 97, 109, 101] } [r, s]) := h.fact 13 (by decide) trivial
        have ha : a = puts _ [(68, (.pointer (some ⟨g12_, 0, none⟩))), (69, (.int .i64 p)), (70, (.pointer (some ⟨g12_, 1, none⟩))), (71, (.int .i64 q)), (72, Value.slice (some ⟨g4_, 0, none⟩) 2 2), (73, Value.slice A5_ (labelL { data := #[110, 97, 109, 101] } [p, q]).length c5_), (74, (.pointer (some ⟨g13_, 0, none⟩))), (75, (.int .i64 r)), (76, (.pointer (some ⟨g13_, 1, none⟩))), (77, (.int .i64 s)), (78, Value.slice (some ⟨g10_, 0, none⟩) 2 2), (79, Value.slice A11_ (labelL { data := #[110, 97, 109, 101] } [r, s]).length c11_), (13, Value.slice A12_ (labelL { data := #[110, 97, 109, 101] } [p, q]).length c12_), (14, Value.slice A13_ (labelL { data := #[110, 97, 109, 101] } [r, s]).length c13_)] := frame_puts _ h.size h.defers h.kept (by kernel_rfl) (.cons f0 (.cons f1 (.cons f2 (.cons f3 (.cons f4 (.cons f5 (.cons f6 (.cons f7 (.cons f8 (.cons f9 (.cons f10 (.cons f11 (.cons f12 (.cons f13 (.nil)))))))))))))))
        have hbel := h.below
        subst ha
        simp only [puts, Act.put, List.setIfInBounds_toArray, List.set_cons_zero, List.set_cons_succ]
        clear h
        have HCU := Aside0.mk b12
        have HCV := Aside0.mk b13
        have HLU := l12
        have HLV := l13
        have HBE10 := Aside0.mk ((below_drew HBE8.out).trans (hbel.mono HBE8.out.size))
        have HZ7 := Aside0.mk ((hbel.block g12_ (blk_lt HY7.out)).trans HY7.out)
        have HZ8 := Aside0.mk ((hbel.block g13_ (blk_lt HY8.out)).trans HY8.out)
        clear hbel f0 f1 f2 f3 f4 f5 f6 f7 f8 f9 f10 f11 f12 f13 b4 b5 b10 b11 b12 b13 l5 l11 l12 l13
        go_wp2
        refine region_facts (by kernel_rfl) (getS [fun v w => ∃ A c, v = .slice A (labelL { data := #[110, 97, 109, 101] } [p, q]).length c ∧ (labelL { data := #[110, 97, 109, 101] } [p, q]).length ≤ c ∧ Kd.C (Kd.int .u8) w A (labelL { data := #[110, 97, 109, 101] } [p, q]).length (labelL { data := #[110, 97, 109, 101] } [p, q]), fun v w => ∃ A c, v = .slice A (labelL { data := #[110, 97, 109, 101] } [r, s]).length c ∧ (labelL { data := #[110, 97, 109, 101] } [r, s]).length ≤ c ∧ Kd.C (Kd.int .u8) w A (labelL { data := #[110, 97, 109, 101] } [r, s]).length (labelL { data := #[110, 97, 109, 101] } [r, s]), fun v _ => v = (.bool bt), fun v _ => v = (.agg (arr .i64 [p, q])), fun v _ => v = (.agg (arr .i64 [r, s])), fun v _ => v = (.bool bt), fun v _ => v = (.bool true), fun v _ => v = (.bool true), fun v w => ∃ A c, v = .slice A (labelL { data := #[110, 97, 109, 101] } [p, q]).length c ∧ (labelL { data := #[110, 97, 109, 101] } [p, q]).length ≤ c ∧ Kd.C (Kd.int .u8) w A (labelL { data := #[110, 97, 109, 101] } [p, q]).length (labelL { data := #[110, 97, 109, 101] } [p, q]), fun v _ => v = (.slice (some ⟨g12_, 0, none⟩) 2 2), fun v w => ∃ A c, v = .slice A (labelL { data := #[110, 97, 109, 101] } [p, q]).length c ∧ (labelL { data := #[110, 97, 109, 101] } [p, q]).length ≤ c ∧ Kd.C (Kd.int .u8) w A (labelL { data := #[110, 97, 109, 101] } [p, q]).length (labelL { data := #[110, 97, 109, 101] } [p, q]), fun v _ => v = (.bool true), fun v _ => v = (.bool true), fun v _ => v = (.bool true)]) (fun _ => false) 14 (by kernel_rfl) (AllStab.spec (.cons (stab_C _ _) (.cons (stab_C _ _) (.cons (stab_val _) (.cons (stab_val _) (.cons (stab_val _) (.cons (stab_val _) (.cons (stab_val _) (.cons (stab_val _) (.cons (stab_C _ _) (.cons (stab_val _) (.cons (stab_C _ _) (.cons (stab_val _) (.cons (stab_val _) (.cons (stab_val _) .nil))))))))))))))) (dst_of (by kernel_rfl)) (EachOp.of ?rop3_11) ?rfin3_11
        case rop3_11 =>
          refine .cons (fun did a W h hd => ?_) ?_
          · have k13 : a.eval (.tmp 13) = .slice A12_ (labelL { data := #[110, 97, 109, 101] } [p, q]).length c12_ := h.kept 13 (by kernel_rfl)
            exact A_move (wanted_none rfl) _ rfl _ k13 ⟨_, _, rfl, HLU, Kd.C_below HCU.out (below_of_drew h.below)⟩ rfl
          refine .cons (fun did a W h hd => ?_) ?_
          · have k14 : a.eval (.tmp 14) = .slice A13_ (labelL { data := #[110, 97, 109, 101] } [r, s]).length c13_ := h.kept 14 (by kernel_rfl)
            exact A_move (wanted_none rfl) _ rfl _ k14 ⟨_, _, rfl, HLV, Kd.C_below HCV.out (below_of_drew h.below)⟩ rfl
          refine .cons (fun did a W h hd => ?_) ?_
          · obtain ⟨A0_v, c0_v, f0, l0, b0⟩ : ∃ A c, a.eval (.tmp 80) = .slice A (labelL { data := #[110, 97, 109, 101] } [p, q]).length c ∧ (labelL { data := #[110, 97, 109, 101] } [p, q]).length ≤ c ∧ Kd.C (Kd.int .u8) W A (labelL { data := #[110, 97, 109, 101] } [p, q]).length (labelL { data := #[110, 97, 109, 101] } [p, q]) := h.fact 0 (by decide) (hd 0 (by kernel_rfl))
            obtain ⟨A1_v, c1_v, f1, l1, b1⟩ : ∃ A c, a.eval (.tmp 81) = .slice A (labelL { data := #[110, 97, 109, 101] } [r, s]).length c ∧ (labelL { data := #[110, 97, 109, 101] } [r, s]).length ≤ c ∧ Kd.C (Kd.int .u8) W A (labelL { data := #[110, 97, 109, 101] } [r, s]).length (labelL { data := #[110, 97, 109, 101] } [r, s]) := h.fact 1 (by decide) (hd 1 (by kernel_rfl))
            exact A_call (wanted_none rfl) 17 #[.tmp 80, .tmp 81] #[28, 28] rfl #[.slice A0_v (labelL { data := #[110, 97, 109, 101] } [p, q]).length c0_v, .slice A1_v (labelL { data := #[110, 97, 109, 101] } [r, s]).length c1_v] (by simp only [List.map_toArray, List.map_cons, List.map_nil, f0, f1] <;> rfl) (by kernel_rfl) ((sameB_calls A0_v c0_v (labelL { data := #[110, 97, 109, 101] } [p, q]) A1_v c1_v (labelL { data := #[110, 97, 109, 101] } [r, s]) bt _ b0 l0 b1 l1 (by rw [labelL_length]; exact Nat.le_of_ble_eq_true rfl) (HUV.out)).mono fun e w' hh => ⟨_, hh.1, hh.2, rfl⟩) rfl
          refine .cons (fun did a W h hd => ?_) ?_
          · have k7 : a.eval (.tmp 7) = .pointer (some ⟨g12_, 0, none⟩) := h.kept 7 (by kernel_rfl)
            exact A_load (wanted_none rfl) 24 (.tmp 7) rfl g12_ k7 24 (arr .i64 [p, q]) _ ((h.below.block g12_ (blk_lt HZ7.out)).trans HZ7.out) Try.underlying24 rfl (by kernel_rfl) rfl rfl
          refine .cons (fun did a W h hd => ?_) ?_
          · have k8 : a.eval (.tmp 8) = .pointer (some ⟨g13_, 0, none⟩) := h.kept 8 (by kernel_rfl)
            exact A_load (wanted_none rfl) 24 (.tmp 8) rfl g13_ k8 24 (arr .i64 [r, s]) _ ((h.below.block g13_ (blk_lt HZ8.out)).trans HZ8.out) Try.underlying24 rfl (by kernel_rfl) rfl rfl
          refine .cons (fun did a W h hd => ?_) ?_
          · have f3 : a.eval (.tmp 83) = (.agg (arr .i64 [p, q])) := h.fact 3 (by decide) (hd 3 (by kernel_rfl))
            have f4 : a.eval (.tmp 84) = (.agg (arr .i64 [r, s])) := h.fact 4 (by decide) (hd 4 (by kernel_rfl))
            exact A_eqarr (wanted_none rfl) 24 3 2 .i64 (.tmp 83) (.tmp 84) 24 rfl Try.underlying24 Try.underlying3 (by kernel_rfl) (by kernel_rfl) [p, q] [r, s] f3 f4 rfl rfl bt HB.out rfl rfl
          refine .cons (fun did a W h hd => ?_) ?_
          · have f2 : a.eval (.tmp 82) = (.bool bt) := h.fact 2 (by decide) (hd 2 (by kernel_rfl))
            have f5 : a.eval (.tmp 85) = (.bool bt) := h.fact 5 (by decide) (hd 5 (by kernel_rfl))
            exact A_bin (wanted_none rfl) _ _ _ _ _ rfl _ _ f2 f5 ((.bool true)) (by simp [eqGuard, binOp, Op.equal, Op.maxDepth, go_sem, Try.underlying4]) rfl rfl
          refine .cons (fun did a W h hd => ?_) ?_
          · have f2 : a.eval (.tmp 82) = (.bool bt) := h.fact 2 (by decide) (hd 2 (by kernel_rfl))
            have f6 : a.eval (.tmp 86) = (.bool true) := h.fact 6 (by decide) (hd 6 (by kernel_rfl))
            exact A_move (wanted_none rfl) _ rfl ((.bool true)) f6 rfl rfl
          refine .cons (fun did a W h hd => ?_) ?_
          · have k13 : a.eval (.tmp 13) = .slice A12_ (labelL { data := #[110, 97, 109, 101] } [p, q]).length c12_ := h.kept 13 (by kernel_rfl)
            have f7 : a.eval (.tmp 87) = (.bool true) := h.fact 7 (by decide) (hd 7 (by kernel_rfl))
            exact A_move (wanted_yes (j := 7) rfl rfl rfl f7) _ rfl _ k13 ⟨_, _, rfl, HLU, Kd.C_below HCU.out (below_of_drew h.below)⟩ rfl
          refine .cons (fun did a W h hd => ?_) ?_
          · have k7 : a.eval (.tmp 7) = .pointer (some ⟨g12_, 0, none⟩) := h.kept 7 (by kernel_rfl)
            have f7 : a.eval (.tmp 87) = (.bool true) := h.fact 7 (by decide) (hd 7 (by kernel_rfl))
            exact A_cutarr (wanted_yes (j := 7) rfl rfl rfl f7) 24 3 2 (.tmp 7) rfl Try.underlying24 (by kernel_rfl) g12_ k7 rfl rfl
          refine .cons (fun did a W h hd => ?_) ?_
          · have f7 : a.eval (.tmp 87) = (.bool true) := h.fact 7 (by decide) (hd 7 (by kernel_rfl))
            have f9 : a.eval (.tmp 89) = (.slice (some ⟨g12_, 0, none⟩) 2 2) := h.fact 9 (by decide) (hd 9 (by kernel_rfl))
            exact A_call (wanted_yes (j := 7) rfl rfl rfl f7) 20 #[.const (.string { data := #[110, 97, 109, 101] }), .tmp 89] #[9, 36] rfl #[.string { data := #[110, 97, 109, 101] }, .slice (some ⟨g12_, 0, none⟩) 2 2] (by simp only [List.map_toArray, List.map_cons, List.map_nil, f9] <;> rfl) (by kernel_rfl) ((refOf_calls { data := #[110, 97, 109, 101] } (some ⟨g12_, 0, none⟩) 2 [p, q] _ (by decide) (C_arr (xs := [p, q]) ((h.below.block g12_ (blk_lt HZ7.out)).trans HZ7.out) (by simp)) (by simp) (by simp)).mono fun e w' ⟨A, c, h1, h2, h3, h4⟩ => ⟨_, h1, h4, A, c, rfl, h2, h3⟩) rfl
          refine .cons (fun did a W h hd => ?_) ?_
          · have f7 : a.eval (.tmp 87) = (.bool true) := h.fact 7 (by decide) (hd 7 (by kernel_rfl))
            obtain ⟨A8_v, c8_v, f8, l8, b8⟩ : ∃ A c, a.eval (.tmp 88) = .slice A (labelL { data := #[110, 97, 109, 101] } [p, q]).length c ∧ (labelL { data := #[110, 97, 109, 101] } [p, q]).length ≤ c ∧ Kd.C (Kd.int .u8) W A (labelL { data := #[110, 97, 109, 101] } [p, q]).length (labelL { data := #[110, 97, 109, 101] } [p, q]) := h.fact 8 (by decide) (hd 8 (by kernel_rfl))
            obtain ⟨A10_v, c10_v, f10, l10, b10⟩ : ∃ A c, a.eval (.tmp 90) = .slice A (labelL { data := #[110, 97, 109, 101] } [p, q]).length c ∧ (labelL { data := #[110, 97, 109, 101] } [p, q]).length ≤ c ∧ Kd.C (Kd.int .u8) W A (labelL { data := #[110, 97, 109, 101] } [p, q]).length (labelL { data := #[110, 97, 109, 101] } [p, q]) := h.fact 10 (by decide) (hd 10 (by kernel_rfl))
            exact A_call (wanted_yes (j := 7) rfl rfl rfl f7) 17 #[.tmp 88, .tmp 90] #[28, 28] rfl #[.slice A8_v (labelL { data := #[110, 97, 109, 101] } [p, q]).length c8_v, .slice A10_v (labelL { data := #[110, 97, 109, 101] } [p, q]).length c10_v] (by simp only [List.map_toArray, List.map_cons, List.map_nil, f8, f10] <;> rfl) (by kernel_rfl) ((sameB_calls A8_v c8_v (labelL { data := #[110, 97, 109, 101] } [p, q]) A10_v c10_v (labelL { data := #[110, 97, 109, 101] } [p, q]) true _ b8 l8 b10 l10 (by rw [labelL_length]; exact Nat.le_of_ble_eq_true rfl) (decide_eq_true rfl)).mono fun e w' hh => ⟨_, hh.1, hh.2, rfl⟩) rfl
          refine .cons (fun did a W h hd => ?_) ?_
          · have f7 : a.eval (.tmp 87) = (.bool true) := h.fact 7 (by decide) (hd 7 (by kernel_rfl))
            have f11 : a.eval (.tmp 91) = (.bool true) := h.fact 11 (by decide) (hd 11 (by kernel_rfl))
            exact A_pick (wanted_none rfl) _ _ _ rfl _ f7 ((.bool true)) (by rw [if_pos rfl]; exact f11) rfl rfl
          refine .cons (fun did a W h hd => ?_) ?_
          · obtain ⟨A0_v, c0_v, f0, l0, b0⟩ : ∃ A c, a.eval (.tmp 80) = .slice A (labelL { data := #[110, 97, 109, 101] } [p, q]).length c ∧ (labelL { data := #[110, 97, 109, 101] } [p, q]).length ≤ c ∧ Kd.C (Kd.int .u8) W A (labelL { data := #[110, 97, 109, 101] } [p, q]).length (labelL { data := #[110, 97, 109, 101] } [p, q]) := h.fact 0 (by decide) (hd 0 (by kernel_rfl))
            obtain ⟨A1_v, c1_v, f1, l1, b1⟩ : ∃ A c, a.eval (.tmp 81) = .slice A (labelL { data := #[110, 97, 109, 101] } [r, s]).length c ∧ (labelL { data := #[110, 97, 109, 101] } [r, s]).length ≤ c ∧ Kd.C (Kd.int .u8) W A (labelL { data := #[110, 97, 109, 101] } [r, s]).length (labelL { data := #[110, 97, 109, 101] } [r, s]) := h.fact 1 (by decide) (hd 1 (by kernel_rfl))
            have f2 : a.eval (.tmp 82) = (.bool bt) := h.fact 2 (by decide) (hd 2 (by kernel_rfl))
            have f3 : a.eval (.tmp 83) = (.agg (arr .i64 [p, q])) := h.fact 3 (by decide) (hd 3 (by kernel_rfl))
            have f4 : a.eval (.tmp 84) = (.agg (arr .i64 [r, s])) := h.fact 4 (by decide) (hd 4 (by kernel_rfl))
            have f5 : a.eval (.tmp 85) = (.bool bt) := h.fact 5 (by decide) (hd 5 (by kernel_rfl))
            have f6 : a.eval (.tmp 86) = (.bool true) := h.fact 6 (by decide) (hd 6 (by kernel_rfl))
            have f7 : a.eval (.tmp 87) = (.bool true) := h.fact 7 (by decide) (hd 7 (by kernel_rfl))
            obtain ⟨A8_v, c8_v, f8, l8, b8⟩ : ∃ A c, a.eval (.tmp 88) = .slice A (labelL { data := #[110, 97, 109, 101] } [p, q]).length c ∧ (labelL { data := #[110, 97, 109, 101] } [p, q]).length ≤ c ∧ Kd.C (Kd.int .u8) W A (labelL { data := #[110, 97, 109, 101] } [p, q]).length (labelL { data := #[110, 97, 109, 101] } [p, q]) := h.fact 8 (by decide) (hd 8 (by kernel_rfl))
            have f9 : a.eval (.tmp 89) = (.slice (some ⟨g12_, 0, none⟩) 2 2) := h.fact 9 (by decide) (hd 9 (by kernel_rfl))
            obtain ⟨A10_v, c10_v, f10, l10, b10⟩ : ∃ A c, a.eval (.tmp 90) = .slice A (labelL { data := #[110, 97, 109, 101] } [p, q]).length c ∧ (labelL { data := #[110, 97, 109, 101] } [p, q]).length ≤ c ∧ Kd.C (Kd.int .u8) W A (labelL { data := #[110, 97, 109, 101] } [p, q]).length (labelL { data := #[110, 97, 109, 101] } [p, q]) := h.fact 10 (by decide) (hd 10 (by kernel_rfl))
            have f11 : a.eval (.tmp 91) = (.bool true) := h.fact 11 (by decide) (hd 11 (by kernel_rfl))
            have f12 : a.eval (.tmp 92) = (.bool true) := h.fact 12 (by decide) (hd 12 (by kernel_rfl))
            exact A_assign (wanted_none rfl) _ rfl ((.bool true)) f12 rfl rfl
          exact .nil
        case rfin3_11 =>
          intro a W h
          refine wpAny_done (by kernel_rfl) ?_ _
          obtain ⟨A0_v, c0_v, f0, l0, b0⟩ : ∃ A c, a.eval (.tmp 80) = .slice A (labelL { data := #[110, 97, 109, 101] } [p, q]).length c ∧ (labelL { data := #[110, 97, 109, 101] } [p, q]).length ≤ c ∧ Kd.C (Kd.int .u8) W A (labelL { data := #[110, 97, 109, 101] } [p, q]).length (labelL { data := #[110, 97, 109, 101] } [p, q]) := h.fact 0 (by decide) trivial
          obtain ⟨A1_v, c1_v, f1, l1, b1⟩ : ∃ A c, a.eval (.tmp 81) = .slice A (labelL { data := #[110, 97, 109, 101] } [r, s]).length c ∧ (labelL { data := #[110, 97, 109, 101] } [r, s]).length ≤ c ∧ Kd.C (Kd.int .u8) W A (labelL { data := #[110, 97, 109, 101] } [r, s]).length (labelL { data := #[110, 97, 109, 101] } [r, s]) := h.fact 1 (by decide) trivial
          have f2 : a.eval (.tmp 82) = (.bool bt) := h.fact 2 (by decide) trivial
          have f3 : a.eval (.tmp 83) = (.agg (arr .i64 [p, q])) := h.fact 3 (by decide) trivial
          have f4 : a.eval (.tmp 84) = (.agg (arr .i64 [r, s])) := h.fact 4 (by decide) trivial
          have f5 : a.eval (.tmp 85) = (.bool bt) := h.fact 5 (by decide) trivial
          have f6 : a.eval (.tmp 86) = (.bool true) := h.fact 6 (by decide) trivial
          have f7 : a.eval (.tmp 87) = (.bool true) := h.fact 7 (by decide) trivial
          obtain ⟨A8_v, c8_v, f8, l8, b8⟩ : ∃ A c, a.eval (.tmp 88) = .slice A (labelL { data := #[110, 97, 109, 101] } [p, q]).length c ∧ (labelL { data := #[110, 97, 109, 101] } [p, q]).length ≤ c ∧ Kd.C (Kd.int .u8) W A (labelL { data := #[110, 97, 109, 101] } [p, q]).length (labelL { data := #[110, 97, 109, 101] } [p, q]) := h.fact 8 (by decide) trivial
          have f9 : a.eval (.tmp 89) = (.slice (some ⟨g12_, 0, none⟩) 2 2) := h.fact 9 (by decide) trivial
          obtain ⟨A10_v, c10_v, f10, l10, b10⟩ : ∃ A c, a.eval (.tmp 90) = .slice A (labelL { data := #[110, 97, 109, 101] } [p, q]).length c ∧ (labelL { data := #[110, 97, 109, 101] } [p, q]).length ≤ c ∧ Kd.C (Kd.int .u8) W A (labelL { data := #[110, 97, 109, 101] } [p, q]).length (labelL { data := #[110, 97, 109, 101] } [p, q]) := h.fact 10 (by decide) trivial
          have f11 : a.eval (.tmp 91) = (.bool true) := h.fact 11 (by decide) trivial
          have f12 : a.eval (.tmp 92) = (.bool true) := h.fact 12 (by decide) trivial
          have f13 : a.eval (.tmp 4) = (.bool true) := h.fact 13 (by decide) trivial
          have ha : a = puts _ [(80, Value.slice A0_v (labelL { data := #[110, 97, 109, 101] } [p, q]).length c0_v), (81, Value.slice A1_v (labelL { data := #[110, 97, 109, 101] } [r, s]).length c1_v), (82, (.bool bt)), (83, (.agg (arr .i64 [p, q]))), (84, (.agg (arr .i64 [r, s]))), (85, (.bool bt)), (86, (.bool true)), (87, (.bool true)), (88, Value.slice A8_v (labelL { data := #[110, 97, 109, 101] } [p, q]).length c8_v), (89, (.slice (some ⟨g12_, 0, none⟩) 2 2)), (90, Value.slice A10_v (labelL { data := #[110, 97, 109, 101] } [p, q]).length c10_v), (91, (.bool true)), (92, (.bool true)), (4, (.bool true))] := frame_puts _ h.size h.defers h.kept (by kernel_rfl) (.cons f0 (.cons f1 (.cons f2 (.cons f3 (.cons f4 (.cons f5 (.cons f6 (.cons f7 (.cons f8 (.cons f9 (.cons f10 (.cons f11 (.cons f12 (.cons f13 (.nil)))))))))))))))
          have hbel := h.below
          subst ha
          simp only [puts, Act.put, List.setIfInBounds_toArray, List.set_cons_zero, List.set_cons_succ]
          clear h
          go_wp2
          go_ret
          exact ⟨rfl, (below_drew HBE10.out).trans (hbel.mono HBE10.out.size)⟩
end Go.Proofs.Ythcpfkkddfgamaa.Sha
