/- By a program of this session (wip/tool/pp.py): plain Lean functions of the Go functions that this family of laws uses, the walks that the Go code comes to their answers, and the row of the law. No condition beside those that the row itself gives. -/
import Derived.Test.YtdbfclfglpbpmaaPF32Tx0
import Derived.Test.YtdbfclfglpbpmaaPF32Tx3
namespace Go.Proofs.Ytdbfclfglpbpmaa.PF32T
open Go.RowKit Go.Proofs.YtdbfclfglpbpmaaW.Hand Go.Proofs.YtdbfclfglpbpmaaW.PrintWords Go.Proofs.YtdbfclfglpbpmaaW.PrintLast Go.Proofs.YtdbfclfglpbpmaaW.PrintMore
attribute [local go_sem] max2_int min2_int max_two min_two max_three min_three max_four min_four   -- for this text's walks alone
set_option linter.unusedVariables false
set_option linter.unusedSimpArgs false

/-! ### batonlaw32_awake: function 36 -/
def batonlaw32_awake.f (k : Nat)  : Option (Bool) := (inbox_Take.f k 0 ([] : List (S142)) 1 (([98] : List Int)) 9).bind fun bt133 => ((inbox_Take.f k bt133.1 bt133.2.1 0 (([97] : List Int)) 9).bind fun bt145 => (if bt133.2.2.2 = 0 then (if bt145.2.2.2 = 0 then (if (bt133.2.2.1.length : Int) = 0 then (some ((strOfNums bt145.2.2.1).toList == ([97, 98] : List UInt8))) else (some false)) else (some false)) else (some false)))
theorem batonlaw32_awake.mono : ∀ k, LeO (batonlaw32_awake.f k ) (batonlaw32_awake.f (k + 1) ) := by
 intro  k
 unfold batonlaw32_awake.f
 repeat' first
   | (with_reducible exact inbox_Take.mono _ _ _ _ _ _)
   | (with_reducible exact LeO.refl _)
   | (with_reducible exact LeO.none _)
   | (with_reducible refine LeO.ite ?_ ?_)
   | (with_reducible refine LeO.bind ?_ (fun _ => ?_))
   | exact inbox_Take.mono _ _ _ _ _ _
   | exact LeO.none _
   | refine LeO.ite ?_ ?_
   | refine LeO.bind ?_ (fun _ => ?_)
theorem bc4_ {W : World} {g : Nat} {cs : Array Value} {t : TypeId} (h : Aside0 (W.heap[g]? = some (.cells cs t (0, 0)))) (j : Nat) {v : Value} (hv : cs[j]? = some v := by rfl) : W.cell? ⟨g, j, none⟩ = some v := (blk_cell h.out j).trans hv
theorem A4_ {p : Prop} (h : p) : Aside0 p := ⟨h⟩
theorem q4_3 {p : Prop} (h : p := by repeat (first | (with_reducible first | exact HB.out | apply below_alloc | apply pw_below_drewN | apply below_drew1 | refine below_set ?_ GE141.out) | exact HB.out)) : p := h
theorem q4_4 {p : Prop} (h : p := by repeat (first | (with_reducible first | exact HB.out | apply below_alloc | apply pw_below_drewN | apply below_drew1) | exact HB.out)) : p := h
theorem q4_5 {p : Prop} (h : p := by (with_reducible repeat (first | refine blk_drewN ?_ _ | refine blk_drew ?_ | refine blk_alloc ?_ _)); exact BK141.out) : p := h
theorem q4_6 {p : Prop} (h : p := by (with_reducible repeat (first | apply Kd.R_alloc | apply Kd.R_drewN | apply Kd.R_drew)); exact HO139.out) : p := h
theorem q4_7 {p : Prop} (h : p := by (with_reducible repeat (first | apply Kd.V_alloc | apply Kd.V_drewN | apply Kd.V_drew)); exact HO132.out) : p := h
theorem q4_8 {p : Prop} (h : p := by (with_reducible repeat (first | apply Kd.V_alloc | apply Kd.V_drewN | apply Kd.V_drew)); exact HO136.out) : p := h
theorem q4_9 {p : Prop} (h : p := by rw [hw]; exact (by (with_reducible repeat (first | refine blk_drewN ?_ _ | refine blk_drew ?_ | refine blk_alloc ?_ _)); refine blk_put (cs := #[.int .i64 t145, .slice none 0 0]) ?_ 1 _ rfl; (with_reducible repeat (first | refine blk_drewN ?_ _ | refine blk_drew ?_ | refine blk_alloc ?_ _)); refine blk_put (cs := #[.int .i64 0, .slice none 0 0]) ?_ 0 _ rfl; (with_reducible repeat (first | refine blk_drewN ?_ _ | refine blk_drew ?_ | refine blk_alloc ?_ _)); exact BK153.out)) : p := h
theorem q4_10 {p : Prop} (h : p := by rw [hw]; exact (by (with_reducible repeat (first | refine blk_drewN ?_ _ | refine blk_drew ?_ | refine blk_alloc ?_ _)); refine blk_put (cs := #[.int .i64 t133, .slice none 0 0]) ?_ 1 _ rfl; (with_reducible repeat (first | refine blk_drewN ?_ _ | refine blk_drew ?_ | refine blk_alloc ?_ _)); refine blk_put (cs := #[.int .i64 0, .slice none 0 0]) ?_ 0 _ rfl; (with_reducible repeat (first | refine blk_drewN ?_ _ | refine blk_drew ?_ | refine blk_alloc ?_ _)); exact BK141.out)) : p := h
theorem q4_11 {p : Prop} (h : p := by rw [hw]; exact (by (with_reducible repeat (first | refine blk_drewN ?_ _ | refine blk_drew ?_ | refine blk_alloc ?_ _)); refine blk_far ?_ NB141_153.out _; (with_reducible repeat (first | refine blk_drewN ?_ _ | refine blk_drew ?_ | refine blk_alloc ?_ _)); refine blk_far ?_ NB141_153.out _; (with_reducible repeat (first | refine blk_drewN ?_ _ | refine blk_drew ?_ | refine blk_alloc ?_ _)); exact BK141.out)) : p := h
theorem q4_12 {p : Prop} (h : p := by (try simp only [List.map_toArray, List.map_cons, List.map_nil]); first | done | rfl | (simp only [List.length_drop, List.length_take]; rfl)) : p := h
theorem q4_13 {p : Prop} (h : p := by first | (with_reducible assumption) | assumption) : p := h
theorem q4_14 {p : Prop} (h : p := by (with_reducible repeat (first | apply Kd.V_alloc | apply Kd.V_drewN | apply Kd.V_drew)); exact HO144.out) : p := h
theorem q4_15 {p : Prop} (h : p := by (with_reducible repeat (first | refine blk_drewN ?_ _ | refine blk_drew ?_ | refine blk_alloc ?_ _)); exact BK154.out) : p := h
theorem q4_16 {p : Prop} (h : p := by repeat (first | (with_reducible first | exact HB.out | apply below_alloc | apply pw_below_drewN | apply below_drew1 | refine below_set ?_ GE154.out | refine below_set ?_ GE155.out | refine below_set ?_ GE156.out) | exact HB.out)) : p := h
theorem q4_17 {p : Prop} (h : p := by rw [hw]; exact (by repeat (first | (with_reducible first | exact HB.out | apply below_alloc | apply pw_below_drewN | apply below_drew1 | refine below_set ?_ GE141.out | refine below_set ?_ GE153.out) | exact HB.out))) : p := h
theorem q4_18 {p : Prop} (h : p := by (with_reducible repeat (first | refine blk_drewN ?_ _ | refine blk_drew ?_ | refine blk_alloc ?_ _)); exact BK155.out) : p := h
theorem q4_19 {p : Prop} (h : p := by repeat (first | (with_reducible first | exact HB.out | apply below_alloc | apply pw_below_drewN | apply below_drew1 | refine below_set ?_ GE154.out | refine below_set ?_ GE155.out) | exact HB.out)) : p := h
theorem q4_20 {p : Prop} (h : p := by repeat (first | (with_reducible first | exact HB.out | apply below_alloc | apply pw_below_drewN | apply below_drew1 | refine below_set ?_ GE154.out) | exact HB.out)) : p := h
theorem q4_21 {p : Prop} (h : p := by kernel_rfl) : p := h
theorem q4_22 {p : Prop} (h : p := by (with_reducible repeat (first | apply Kd.V_alloc | apply Kd.V_drewN | apply Kd.V_drew)); exact HO148.out) : p := h
theorem q4_23 {p : Prop} (h : p := by (with_reducible repeat (first | apply Kd.R_alloc | apply Kd.R_drewN | apply Kd.R_drew)); exact HO151.out) : p := h
theorem q4_24 {p : Prop} (h : p := by first | rfl | (simp; done) | (simp [*]; done)) : p := h
theorem q4_25 {p : Prop} (h : p := by decide) : p := h
set_option maxHeartbeats 8000000 in
set_option maxRecDepth 100000 in
theorem batonlaw32_awake.calls (k : Nat)  (r : Bool) (w : World) (h : batonlaw32_awake.f k  = some r) :
  Calls Try.prog 36 #[] w fun e w' => e = .returned (.bool r) ∧ Below w.heap.size w w' := by
 have hu68 := Try.underlying68
 have HB := A4_ (Below.refl w.heap.size w)
 have H : ((inbox_Take.f k 0 ([] : List (S142)) 1 (([98] : List Int)) 9).bind fun bt133 => ((inbox_Take.f k bt133.1 bt133.2.1 0 (([97] : List Int)) 9).bind fun bt145 => (if bt133.2.2.2 = 0 then (if bt145.2.2.2 = 0 then (if (bt133.2.2.1.length : Int) = 0 then (some ((strOfNums bt145.2.2.1).toList == ([97, 98] : List UInt8))) else (some false)) else (some false)) else (some false)))) = some r := h
 clear h
 obtain ⟨y130, hy130⟩ : ∃ y_ : List Int, y_ = (([98] : List Int)) := ⟨_, rfl⟩
 replace H : ((inbox_Take.f k 0 ([] : List (S142)) 1 y130 9).bind fun bt133 => ((inbox_Take.f k bt133.1 bt133.2.1 0 (([97] : List Int)) 9).bind fun bt145 => (if bt133.2.2.2 = 0 then (if bt145.2.2.2 = 0 then (if (bt133.2.2.1.length : Int) = 0 then (some ((strOfNums bt145.2.2.1).toList == ([97, 98] : List UInt8))) else (some false)) else (some false)) else (some false)))) = some r := by first | (rw [hy130]; with_reducible exact H) | (have H2_ := (Option.bind_some _ _).symm.trans H; rw [hy130]; with_reducible exact H2_) | (have H2_ := (Option.bind_some _ _).symm.trans H; with_reducible exact H2_) | with_reducible exact H | (rw [hy130]; exact H) | exact H
 have Ny130 := A4_ hy130
 clear hy130
 replace H := Option.bind_eq_some_iff.mp H
 obtain ⟨⟨t133, t134, t137, t140⟩, A10, H⟩ := H
 replace H : ((inbox_Take.f k t133 t134 0 (([97] : List Int)) 9).bind fun bt145 => (if t140 = 0 then (if bt145.2.2.2 = 0 then (if (t137.length : Int) = 0 then (some ((strOfNums bt145.2.2.1).toList == ([97, 98] : List UInt8))) else (some false)) else (some false)) else (some false))) = some r := H
 have A1 := A4_ A10
 clear A10
 obtain ⟨y142, hy142⟩ : ∃ y_ : List Int, y_ = (([97] : List Int)) := ⟨_, rfl⟩
 replace H : ((inbox_Take.f k t133 t134 0 y142 9).bind fun bt145 => (if t140 = 0 then (if bt145.2.2.2 = 0 then (if (t137.length : Int) = 0 then (some ((strOfNums bt145.2.2.1).toList == ([97, 98] : List UInt8))) else (some false)) else (some false)) else (some false))) = some r := by first | (rw [hy142]; with_reducible exact H) | (have H2_ := (Option.bind_some _ _).symm.trans H; rw [hy142]; with_reducible exact H2_) | (have H2_ := (Option.bind_some _ _).symm.trans H; with_reducible exact H2_) | with_reducible exact H | (rw [hy142]; exact H) | exact H
 have Ny142 := A4_ hy142
 clear hy142
 replace H := Option.bind_eq_some_iff.mp H
 obtain ⟨⟨t145, t146, t149, t152⟩, A20, H⟩ := H
 replace H : (if t140 = 0 then (if t152 = 0 then (if (t137.length : Int) = 0 then (some ((strOfNums t149).toList == ([97, 98] : List UInt8))) else (some false)) else (some false)) else (some false)) = some r := H
 have A2 := A4_ A20
 clear A20
 by_cases c3 : t140 = 0
 ·rw [if_pos c3] at H
  have c3b0 : (t140 == 0) = true := beq_iff_eq.mpr c3
  have c3b1 : (t140 != 0) = false := bne_eq_false_iff_eq.mpr c3
  clear c3
  by_cases c4 : t152 = 0
  ·rw [if_pos c4] at H
   have c4b0 : (t152 == 0) = true := beq_iff_eq.mpr c4
   have c4b1 : (t152 != 0) = false := bne_eq_false_iff_eq.mpr c4
   clear c4
   by_cases c5 : (t137.length : Int) = 0
   ·rw [if_pos c5] at H
    have c5b0 : ((t137.length : Int) == 0) = true := beq_iff_eq.mpr c5
    have c5b1 : ((t137.length : Int) != 0) = false := bne_eq_false_iff_eq.mpr c5
    clear c5
    obtain rfl := Option.some.inj H
    go_enter Try.func36, Try.ntmps36
    go_wp2_with (first | ((with_reducible refine gate_dst (N := 9) rfl ?_); (try (refine gate_guard (by rfl) ?_; dsimp only)); refine V_litc _ 5 22 Try.underlying22 Try.underlying5 ?hg (N := 9) ?hd ?hg2 ?ho2 ?hev (xs := ([98] : List Int)) (inner := #[.int .u8 98]) rfl (ok := (fun _ => True)) ?hr ((show ∀ k_, w.heap.size ≤ k_ → (fun _ => True) k_ from fun k_ hk => trivial) _ (Nat.le_refl _)) (Below.refl _ _) (Nat.le_refl _) q4_25 ?_; (case hd => rfl); (case hg => rfl); (case hg2 => rfl); (case ho2 => rfl); (case hev => exact fun _ => rfl); (case hr => first | (go_simp; done) | (go_simp; rfl)); intro v131 w6 ho7 hb hg_ hnew_; clear hg_ hnew_; (first | rw [← Ny130.out] at ho7 | (simp only [Int.reduceToNat] at ho7; rw [← Ny130.out] at ho7)); have n0_ := A4_ (Kd.V_lower ho7 (below_size q4_4)); have n1_ := A4_ (below_step q4_4 hb); clear HB; have HO132 := n0_; have HB := n1_; clear n0_ n1_; clear hb ho7; obtain ⟨Ao8, co8, eo8⟩ := Kd.V_slice HO132.out; subst eo8) | ((with_reducible refine gate_callee (f := 37) rfl ?_); refine goesL_ (some 11) rfl rfl Try.func37 q4_21 rfl #[.agg #[.int .i64 0, .slice none 0 0], .int .i64 1, .slice Ao8 y130.length co8, .int .i64 9] rfl q4_12 ?_; (refine (inbox_Take.calls k 0 (fun k_ => False) _ _ ([] : List (S142)) 1 _ _ y130 9 t133 t134 t137 t140 _ ?side1 ?side2 ?side3 A1.out).mono ?_); (case side1 => exact Kd.V_nil _ _ _ _ _); (case side2 => repeat (first | exact (Kd.V_reads' HO132.out).2.2 | (with_reducible refine Kd.C_alloc ?_ _) | (with_reducible refine Kd.C_drewN ?_ _) | (with_reducible refine Kd.C_drew ?_))); (case side3 => exact (Kd.V_reads' HO132.out).2.1); rintro e w9 ⟨v135, v138, rfl, ho0, ho1, hb⟩; refine ⟨_, rfl, ?_⟩; have n0_ := A4_ (Kd.V_elder' q4_7 (Kd.R_base ho1) hb); have n1_ := A4_ (Kd.V_lower (Kd.V_mono (ok' := fun k_ => some k_ ≠ (v138 : Value).ownBlock) ho0 (fun k_ hk_ => hk_.2)) (below_size q4_4)); have n2_ := A4_ (Kd.R_lower (Kd.R_mono (ok' := fun k_ => True) ho1 (fun _ hk_ => trivial)) (below_size q4_4)); have n3_ := A4_ (below_step q4_4 hb); clear HO132 HB; have HO132 := n0_; have HO136 := n1_; have HO139 := n2_; have HB := n3_; clear n0_ n1_ n2_ n3_; (try clear hb); (try clear hb2); (try clear hk); (try clear hi); (try clear ho0); (try clear ho1)) | ((with_reducible refine gate_dst (N := 1) rfl ?_); (try (refine gate_guard (by rfl) ?_; dsimp only)); refine box_event ?hg (N := 1) ?hd (cs := #[.int .i64 0, .slice none 0 0]) (t := 68) ?hr ?_; (case hd => rfl); (case hg => rfl); (case hr => first | (go_simp; done) | (go_simp; rfl)); intro gb141 hg w10 hbox hb; have n0_ := A4_ (Kd.V_below (Kd.V_elderB q4_7 gb141 (Nat.le_of_eq hg.symm)) hb); have n1_ := A4_ (Kd.V_below (Kd.V_elderB q4_8 gb141 (Nat.le_of_eq hg.symm)) hb); have n2_ := A4_ (Kd.R_below q4_6 hb); have n3_ := A4_ (below_step q4_4 hb); have n4_ := A4_ (hbox); have n5_ := A4_ ((by rw [hg]; exact (below_size q4_4) : w.heap.size ≤ gb141)); have n6_ := A4_ ((by rw [hg]; exact (below_size q4_4) : w.heap.size ≤ gb141)); clear HO132 HO136 HO139 HB; have HO132 := n0_; have HO136 := n1_; have HO139 := n2_; have HB := n3_; have BK141 := n4_; have GW141 := n5_; have GE141 := n6_; clear n0_ n1_ n2_ n3_ n4_ n5_ n6_; clear hb hbox hg; have hcz11_0 : w10.cell? ⟨gb141, 0, none⟩ = some (.int .i64 0) := bc4_ BK141 0; have hcz11_1 : w10.cell? ⟨gb141, 1, none⟩ = some (.slice none 0 0) := bc4_ BK141 1; have hfz11_0 := blk_frozen BK141.out 0; have hfz11_1 := blk_frozen BK141.out 1; obtain ⟨Ao12, co12, eo12⟩ := Kd.V_slice HO136.out; subst eo12) | ((with_reducible refine gate_store (t := 68) (p := 1) rfl ?_); refine store_event (t := 68) (p := 1) (v := ?vo_w13) (w1 := ((w10.setCell ⟨gb141, 0, none⟩ (.int .i64 t133)).setCell ⟨gb141, 1, none⟩ (.slice Ao12 t134.length co12))) ?hg ?ho ?hn ?hr ?_; (case ho => rfl); (case hg => rfl); (case hn => rfl); (case hr => first | (go_simp; done) | (go_simp; rfl)); intro w13 hw; have n0_ : Aside0 (Kd.V (Kd.int .u8) 5 w13 w.heap.size (fun k_ => some k_ ≠ (v138 : Value).ownBlock ∧ k_ ≠ gb141) (.slice Ao8 y130.length co8) y130) := ⟨(by rw [hw]; exact (by (with_reducible repeat (first | apply Kd.V_alloc | apply Kd.V_drewN | apply Kd.V_drew)); exact Kd.V_mono (Kd.V_far (p := ⟨gb141, 1, none⟩) (Kd.V_far (p := ⟨gb141, 0, none⟩) (Kd.V_mono HO132.out (fun k_ hk => (⟨hk, hk.2⟩ : _ ∧ k_ ≠ gb141))) (fun _ hk => hk.2) (.int .i64 t133)) (fun _ hk => hk.2) (.slice Ao12 t134.length co12)) (fun _ hk => ⟨hk.1.1.2, hk.1.2⟩)))⟩; have n1_ : Aside0 (Kd.V k142 142 w13 w.heap.size (fun k_ => some k_ ≠ (v138 : Value).ownBlock ∧ k_ ≠ gb141) (.slice Ao12 t134.length co12) t134) := ⟨(by rw [hw]; exact (by (with_reducible repeat (first | apply Kd.V_alloc | apply Kd.V_drewN | apply Kd.V_drew)); exact Kd.V_mono (Kd.V_far (p := ⟨gb141, 1, none⟩) (Kd.V_far (p := ⟨gb141, 0, none⟩) (Kd.V_mono HO136.out (fun k_ hk => (⟨hk, hk.2⟩ : _ ∧ k_ ≠ gb141))) (fun _ hk => hk.2) (.int .i64 t133)) (fun _ hk => hk.2) (.slice Ao12 t134.length co12)) (fun _ hk => ⟨hk.1.1, hk.1.2⟩)))⟩; have n2_ : Aside0 (Kd.R (Kd.int .u8) 5 w13 w.heap.size (fun _ => True) v138 t137) := ⟨(by rw [hw]; exact (by (with_reducible repeat (first | apply Kd.R_alloc | apply Kd.R_drewN | apply Kd.R_drew)); exact Kd.R_mono (Kd.R_far (p := ⟨gb141, 1, none⟩) (Kd.R_far (p := ⟨gb141, 0, none⟩) (Kd.R_types HO139.out BK141.out q4_25) (fun _ hk => hk.2) (.int .i64 t133)) (fun _ hk => hk.2) (.slice Ao12 t134.length co12)) (fun _ hk => trivial)))⟩; have n3_ : Aside0 (w13.heap[gb141]? = some (.cells #[.int .i64 t133, .slice Ao12 t134.length co12] 68 (0, 0))) := ⟨q4_10⟩; have n4_ : Aside0 (Below w.heap.size w w13) := ⟨(by rw [hw]; exact q4_3)⟩; clear hw HO132 HO136 HO139 BK141 HB; have HO132 := n0_; have HO136 := n1_; have HO139 := n2_; have BK141 := n3_; have HB := n4_; clear n0_ n1_ n2_ n3_ n4_; have hcz14_0 : w13.cell? ⟨gb141, 0, none⟩ = some (.int .i64 t133) := bc4_ BK141 0; have hcz14_1 : w13.cell? ⟨gb141, 1, none⟩ = some (.slice Ao12 t134.length co12) := bc4_ BK141 1; have hfz14_0 := blk_frozen BK141.out 0; have hfz14_1 := blk_frozen BK141.out 1) | ((with_reducible refine gate_dst (N := 17) rfl ?_); (try (refine gate_guard (by rfl) ?_; dsimp only)); refine V_litc _ 5 22 Try.underlying22 Try.underlying5 ?hg (N := 17) ?hd ?hg2 ?ho2 ?hev (xs := ([97] : List Int)) (inner := #[.int .u8 97]) rfl (ok := (fun k_ => some k_ ≠ (v138 : Value).ownBlock ∧ k_ ≠ gb141)) ?hr ((show ∀ k_, w13.heap.size ≤ k_ → (fun k_ => some k_ ≠ (v138 : Value).ownBlock ∧ k_ ≠ gb141) k_ from fun k_ hk => ⟨Kd.fresh' (Kd.R_lt q4_6) k_ hk, Kd.freshB (g := gb141) (o := .cells #[.int .i64 t133, .slice Ao12 t134.length co12] 68 (0, 0)) q4_5 k_ hk⟩) _ (Nat.le_refl _)) (Below.refl _ _) (Nat.le_refl _) q4_25 ?_; (case hd => rfl); (case hg => rfl); (case hg2 => rfl); (case ho2 => rfl); (case hev => exact fun _ => rfl); (case hr => first | (go_simp; done) | (go_simp; rfl)); intro v143 w15 ho16 hb hg_ hnew_; clear hg_ hnew_; (first | rw [← Ny142.out] at ho16 | (simp only [Int.reduceToNat] at ho16; rw [← Ny142.out] at ho16)); have n0_ := A4_ (Kd.V_below q4_7 hb); have n1_ := A4_ (Kd.V_below q4_8 hb); have n2_ := A4_ (Kd.R_below q4_6 hb); have n3_ := A4_ (Kd.V_lower ho16 (below_size q4_3)); have n4_ := A4_ (blk_below (g := gb141) (o := .cells #[.int .i64 t133, .slice Ao12 t134.length co12] 68 (0, 0)) q4_5 hb); have n5_ := A4_ (below_step q4_3 hb); clear HO132 HO136 HO139 BK141 HB; have HO132 := n0_; have HO136 := n1_; have HO139 := n2_; have HO144 := n3_; have BK141 := n4_; have HB := n5_; clear n0_ n1_ n2_ n3_ n4_ n5_; clear hb ho16; obtain ⟨Ao17, co17, eo17⟩ := Kd.V_slice HO144.out; subst eo17) | ((with_reducible refine gate_callee (f := 37) rfl ?_); refine goesL_ (some 19) rfl rfl Try.func37 q4_21 rfl #[.agg #[.int .i64 t133, .slice Ao12 t134.length co12], .int .i64 0, .slice Ao17 y142.length co17, .int .i64 9] rfl q4_12 ?_; (with_reducible refine (inbox_Take.calls k t133 (fun k_ => (some k_ ≠ (v138 : Value).ownBlock ∧ k_ ≠ gb141)) _ _ t134 0 _ _ y142 9 t145 t146 t149 t152 _ ?side1 ?side2 ?side3 A2.out).mono ?_); (case side1 => exact HO136.out); (case side2 => repeat (first | exact (Kd.V_reads' HO144.out).2.2 | (with_reducible refine Kd.C_alloc ?_ _) | (with_reducible refine Kd.C_drewN ?_ _) | (with_reducible refine Kd.C_drew ?_))); (case side3 => exact (Kd.V_reads' HO144.out).2.1); rintro e w18 ⟨v147, v150, rfl, ho0, ho1, hb⟩; refine ⟨_, rfl, ?_⟩; have n0_ := A4_ (Kd.V_elder' q4_7 (Kd.R_base ho1) hb); have n1_ := A4_ (Kd.V_elder' q4_8 (Kd.R_base ho1) hb); have n2_ := A4_ (Kd.R_elder' q4_6 (Kd.R_base ho1) hb); have n3_ := A4_ (Kd.V_elder' q4_14 (Kd.R_base ho1) hb); have n4_ := A4_ (Kd.V_lower (Kd.V_mono (ok' := fun k_ => some k_ ≠ (v150 : Value).ownBlock ∧ some k_ ≠ (v138 : Value).ownBlock ∧ k_ ≠ gb141) ho0 (fun k_ hk_ => ⟨hk_.2, Or.elim hk_.1 (fun hs_ => hs_.1) (fun hn_ => (Kd.fresh' (Kd.R_lt q4_6) k_ hn_)), Or.elim hk_.1 (fun hs_ => hs_.2) (fun hn_ => (Kd.freshB (g := gb141) (o := .cells #[.int .i64 t133, .slice Ao12 t134.length co12] 68 (0, 0)) q4_5 k_ hn_))⟩)) (below_size q4_3)); have n5_ := A4_ (Kd.R_lower (Kd.R_new' (Kd.R_mono (ok' := fun k_ => True) ho1 (fun _ hk_ => trivial)) (Kd.R_lt q4_6)) (below_size q4_3)); have n6_ := A4_ (blk_below (g := gb141) (o := .cells #[.int .i64 t133, .slice Ao12 t134.length co12] 68 (0, 0)) q4_5 hb); have n7_ := A4_ (below_step q4_3 hb); clear HO132 HO136 HO139 HO144 BK141 HB; have HO132 := n0_; have HO136 := n1_; have HO139 := n2_; have HO144 := n3_; have HO148 := n4_; have HO151 := n5_; have BK141 := n6_; have HB := n7_; clear n0_ n1_ n2_ n3_ n4_ n5_ n6_ n7_; (try clear hb); (try clear hb2); (try clear hk); (try clear hi); (try clear ho0); (try clear ho1)) | ((with_reducible refine gate_dst (N := 4) rfl ?_); (try (refine gate_guard (by rfl) ?_; dsimp only)); refine box_event ?hg (N := 4) ?hd (cs := #[.int .i64 0, .slice none 0 0]) (t := 68) ?hr ?_; (case hd => rfl); (case hg => rfl); (case hr => first | (go_simp; done) | (go_simp; rfl)); intro gb153 hg w19 hbox hb; have n0_ := A4_ (Kd.V_below (Kd.V_elderB q4_7 gb153 (Nat.le_of_eq hg.symm)) hb); have n1_ := A4_ (Kd.V_below (Kd.V_elderB q4_8 gb153 (Nat.le_of_eq hg.symm)) hb); have n2_ := A4_ (Kd.R_below q4_6 hb); have n3_ := A4_ (Kd.V_below (Kd.V_elderB q4_14 gb153 (Nat.le_of_eq hg.symm)) hb); have n4_ := A4_ (Kd.V_below (Kd.V_elderB q4_22 gb153 (Nat.le_of_eq hg.symm)) hb); have n5_ := A4_ (Kd.R_below q4_23 hb); have n6_ := A4_ (blk_below (g := gb141) (o := .cells #[.int .i64 t133, .slice Ao12 t134.length co12] 68 (0, 0)) q4_5 hb); have n7_ := A4_ (below_step q4_3 hb); have n8_ := A4_ (hbox); have n9_ := A4_ ((by rw [hg]; exact (below_size q4_3) : w.heap.size ≤ gb153)); have n10_ := A4_ ((by rw [hg]; exact (below_size q4_3) : w.heap.size ≤ gb153)); have n11_ := A4_ ((by rw [hg]; exact Nat.ne_of_lt (blk_lt (g := gb141) (o := .cells #[.int .i64 t133, .slice Ao12 t134.length co12] 68 (0, 0)) q4_5) : gb141 ≠ gb153)); have n12_ := A4_ ((by rw [hg]; exact Nat.ne_of_gt (blk_lt (g := gb141) (o := .cells #[.int .i64 t133, .slice Ao12 t134.length co12] 68 (0, 0)) q4_5) : gb153 ≠ gb141)); clear HO132 HO136 HO139 HO144 HO148 HO151 BK141 HB; have HO132 := n0_; have HO136 := n1_; have HO139 := n2_; have HO144 := n3_; have HO148 := n4_; have HO151 := n5_; have BK141 := n6_; have HB := n7_; have BK153 := n8_; have GW153 := n9_; have GE153 := n10_; have NB141_153 := n11_; have NB153_141 := n12_; clear n0_ n1_ n2_ n3_ n4_ n5_ n6_ n7_ n8_ n9_ n10_ n11_ n12_; clear hb hbox hg; have hnb20 := NB153_141.out; have hnc20 := NB141_153.out; have hcz21_0 : w19.cell? ⟨gb153, 0, none⟩ = some (.int .i64 0) := bc4_ BK153 0; have hcz21_1 : w19.cell? ⟨gb153, 1, none⟩ = some (.slice none 0 0) := bc4_ BK153 1; have hfz21_0 := blk_frozen BK153.out 0; have hfz21_1 := blk_frozen BK153.out 1; obtain ⟨Ao22, co22, eo22⟩ := Kd.V_slice HO148.out; subst eo22) | ((with_reducible refine gate_store (t := 68) (p := 4) rfl ?_); refine store_event (t := 68) (p := 4) (v := ?vo_w23) (w1 := ((w19.setCell ⟨gb153, 0, none⟩ (.int .i64 t145)).setCell ⟨gb153, 1, none⟩ (.slice Ao22 t146.length co22))) ?hg ?ho ?hn ?hr ?_; (case ho => rfl); (case hg => rfl); (case hn => rfl); (case hr => first | (go_simp; done) | (go_simp; rfl)); intro w23 hw; have n0_ : Aside0 (Kd.V (Kd.int .u8) 5 w23 w.heap.size (fun k_ => some k_ ≠ (v138 : Value).ownBlock ∧ some k_ ≠ (v150 : Value).ownBlock ∧ k_ ≠ gb141 ∧ k_ ≠ gb153) (.slice Ao8 y130.length co8) y130) := ⟨(by rw [hw]; exact (by (with_reducible repeat (first | apply Kd.V_alloc | apply Kd.V_drewN | apply Kd.V_drew)); exact Kd.V_mono (Kd.V_far (p := ⟨gb153, 1, none⟩) (Kd.V_far (p := ⟨gb153, 0, none⟩) (Kd.V_mono HO132.out (fun k_ hk => (⟨hk, hk.2⟩ : _ ∧ k_ ≠ gb153))) (fun _ hk => hk.2) (.int .i64 t145)) (fun _ hk => hk.2) (.slice Ao22 t146.length co22)) (fun _ hk => ⟨hk.1.1.1.1, ⟨hk.1.1.2, ⟨hk.1.1.1.2, hk.1.2⟩⟩⟩)))⟩; have n1_ : Aside0 (Kd.V k142 142 w23 w.heap.size (fun k_ => some k_ ≠ (v138 : Value).ownBlock ∧ some k_ ≠ (v150 : Value).ownBlock ∧ k_ ≠ gb141 ∧ k_ ≠ gb153) (.slice Ao12 t134.length co12) t134) := ⟨(by rw [hw]; exact (by (with_reducible repeat (first | apply Kd.V_alloc | apply Kd.V_drewN | apply Kd.V_drew)); exact Kd.V_mono (Kd.V_far (p := ⟨gb153, 1, none⟩) (Kd.V_far (p := ⟨gb153, 0, none⟩) (Kd.V_mono HO136.out (fun k_ hk => (⟨hk, hk.2⟩ : _ ∧ k_ ≠ gb153))) (fun _ hk => hk.2) (.int .i64 t145)) (fun _ hk => hk.2) (.slice Ao22 t146.length co22)) (fun _ hk => ⟨hk.1.1.1.1, ⟨hk.1.1.2, ⟨hk.1.1.1.2, hk.1.2⟩⟩⟩)))⟩; have n2_ : Aside0 (Kd.R (Kd.int .u8) 5 w23 w.heap.size (fun k_ => some k_ ≠ (v150 : Value).ownBlock) v138 t137) := ⟨(by rw [hw]; exact (by (with_reducible repeat (first | apply Kd.R_alloc | apply Kd.R_drewN | apply Kd.R_drew)); exact Kd.R_mono (Kd.R_far (p := ⟨gb153, 1, none⟩) (Kd.R_far (p := ⟨gb153, 0, none⟩) (Kd.R_types HO139.out BK153.out q4_25) (fun _ hk => hk.2) (.int .i64 t145)) (fun _ hk => hk.2) (.slice Ao22 t146.length co22)) (fun _ hk => hk.1.2)))⟩; have n3_ : Aside0 (Kd.V (Kd.int .u8) 5 w23 w.heap.size (fun k_ => some k_ ≠ (v138 : Value).ownBlock ∧ some k_ ≠ (v150 : Value).ownBlock ∧ k_ ≠ gb141 ∧ k_ ≠ gb153) (.slice Ao17 y142.length co17) y142) := ⟨(by rw [hw]; exact (by (with_reducible repeat (first | apply Kd.V_alloc | apply Kd.V_drewN | apply Kd.V_drew)); exact Kd.V_mono (Kd.V_far (p := ⟨gb153, 1, none⟩) (Kd.V_far (p := ⟨gb153, 0, none⟩) (Kd.V_mono HO144.out (fun k_ hk => (⟨hk, hk.2⟩ : _ ∧ k_ ≠ gb153))) (fun _ hk => hk.2) (.int .i64 t145)) (fun _ hk => hk.2) (.slice Ao22 t146.length co22)) (fun _ hk => ⟨hk.1.1.1.1, ⟨hk.1.1.2, ⟨hk.1.1.1.2, hk.1.2⟩⟩⟩)))⟩; have n4_ : Aside0 (Kd.V k142 142 w23 w.heap.size (fun k_ => some k_ ≠ (v138 : Value).ownBlock ∧ some k_ ≠ (v150 : Value).ownBlock ∧ k_ ≠ gb141 ∧ k_ ≠ gb153) (.slice Ao22 t146.length co22) t146) := ⟨(by rw [hw]; exact (by (with_reducible repeat (first | apply Kd.V_alloc | apply Kd.V_drewN | apply Kd.V_drew)); exact Kd.V_mono (Kd.V_far (p := ⟨gb153, 1, none⟩) (Kd.V_far (p := ⟨gb153, 0, none⟩) (Kd.V_mono HO148.out (fun k_ hk => (⟨hk, hk.2⟩ : _ ∧ k_ ≠ gb153))) (fun _ hk => hk.2) (.int .i64 t145)) (fun _ hk => hk.2) (.slice Ao22 t146.length co22)) (fun _ hk => ⟨hk.1.1.2.1, ⟨hk.1.1.1, ⟨hk.1.1.2.2, hk.1.2⟩⟩⟩)))⟩; have n5_ : Aside0 (Kd.R (Kd.int .u8) 5 w23 w.heap.size (fun k_ => some k_ ≠ (v138 : Value).ownBlock) v150 t149) := ⟨(by rw [hw]; exact (by (with_reducible repeat (first | apply Kd.R_alloc | apply Kd.R_drewN | apply Kd.R_drew)); exact Kd.R_mono (Kd.R_far (p := ⟨gb153, 1, none⟩) (Kd.R_far (p := ⟨gb153, 0, none⟩) (Kd.R_types HO151.out BK153.out q4_25) (fun _ hk => hk.2) (.int .i64 t145)) (fun _ hk => hk.2) (.slice Ao22 t146.length co22)) (fun _ hk => hk.1.2)))⟩; have n6_ : Aside0 (w23.heap[gb141]? = some (.cells #[.int .i64 t133, .slice Ao12 t134.length co12] 68 (0, 0))) := ⟨q4_11⟩; have n7_ : Aside0 (w23.heap[gb153]? = some (.cells #[.int .i64 t145, .slice Ao22 t146.length co22] 68 (0, 0))) := ⟨q4_9⟩; have n8_ : Aside0 (Below w.heap.size w w23) := ⟨q4_17⟩; clear hw HO132 HO136 HO139 HO144 HO148 HO151 BK141 BK153 HB; have HO132 := n0_; have HO136 := n1_; have HO139 := n2_; have HO144 := n3_; have HO148 := n4_; have HO151 := n5_; have BK141 := n6_; have BK153 := n7_; have HB := n8_; clear n0_ n1_ n2_ n3_ n4_ n5_ n6_ n7_ n8_; obtain ⟨Ao24, co24, eo24⟩ := Kd.R_slice HO139.out; subst eo24; have hcv25 := own_string (P := Try.prog) Try.underlying22 Try.underlying5 Try.underlying9 (Kd.own_of_R HO151.out)))
    go_ret
    exact ⟨by first | rfl | (simp [errW_none, errW_some] <;> rfl) | (simp [*, errW_none, errW_some] <;> rfl), by repeat (first | (with_reducible first | exact HB.out | apply below_alloc | apply pw_below_drewN | apply below_drew1 | refine below_set ?_ GE141.out | refine below_set ?_ GE153.out) | exact HB.out)⟩
   ·rw [if_neg c5] at H
    have c5b0 : ((t137.length : Int) == 0) = false := beq_eq_false_iff_ne.mpr c5
    have c5b1 : ((t137.length : Int) != 0) = true := bne_iff_ne.mpr c5
    have c5b2 : ¬ (t137 = []) := fun h_ => c5 (by rw [h_]; rfl)
    obtain rfl := Option.some.inj H
    go_enter Try.func36, Try.ntmps36
    go_wp2_with (first | ((with_reducible refine gate_dst (N := 9) rfl ?_); (try (refine gate_guard (by rfl) ?_; dsimp only)); refine V_litc _ 5 22 Try.underlying22 Try.underlying5 ?hg (N := 9) ?hd ?hg2 ?ho2 ?hev (xs := ([98] : List Int)) (inner := #[.int .u8 98]) rfl (ok := (fun _ => True)) ?hr ((show ∀ k_, w.heap.size ≤ k_ → (fun _ => True) k_ from fun k_ hk => trivial) _ (Nat.le_refl _)) (Below.refl _ _) (Nat.le_refl _) q4_25 ?_; (case hd => rfl); (case hg => rfl); (case hg2 => rfl); (case ho2 => rfl); (case hev => exact fun _ => rfl); (case hr => first | (go_simp; done) | (go_simp; rfl)); intro v131 w26 ho27 hb hg_ hnew_; clear hg_ hnew_; (first | rw [← Ny130.out] at ho27 | (simp only [Int.reduceToNat] at ho27; rw [← Ny130.out] at ho27)); have n0_ := A4_ (Kd.V_lower ho27 (below_size q4_4)); have n1_ := A4_ (below_step q4_4 hb); clear HB; have HO132 := n0_; have HB := n1_; clear n0_ n1_; clear hb ho27; obtain ⟨Ao28, co28, eo28⟩ := Kd.V_slice HO132.out; subst eo28) | ((with_reducible refine gate_callee (f := 37) rfl ?_); refine goesL_ (some 11) rfl rfl Try.func37 q4_21 rfl #[.agg #[.int .i64 0, .slice none 0 0], .int .i64 1, .slice Ao28 y130.length co28, .int .i64 9] rfl q4_12 ?_; (refine (inbox_Take.calls k 0 (fun k_ => False) _ _ ([] : List (S142)) 1 _ _ y130 9 t133 t134 t137 t140 _ ?side1 ?side2 ?side3 A1.out).mono ?_); (case side1 => exact Kd.V_nil _ _ _ _ _); (case side2 => repeat (first | exact (Kd.V_reads' HO132.out).2.2 | (with_reducible refine Kd.C_alloc ?_ _) | (with_reducible refine Kd.C_drewN ?_ _) | (with_reducible refine Kd.C_drew ?_))); (case side3 => exact (Kd.V_reads' HO132.out).2.1); rintro e w29 ⟨v135, v138, rfl, ho0, ho1, hb⟩; refine ⟨_, rfl, ?_⟩; have n0_ := A4_ (Kd.V_elder' q4_7 (Kd.R_base ho1) hb); have n1_ := A4_ (Kd.V_lower (Kd.V_mono (ok' := fun k_ => some k_ ≠ (v138 : Value).ownBlock) ho0 (fun k_ hk_ => hk_.2)) (below_size q4_4)); have n2_ := A4_ (Kd.R_lower (Kd.R_mono (ok' := fun k_ => True) ho1 (fun _ hk_ => trivial)) (below_size q4_4)); have n3_ := A4_ (below_step q4_4 hb); clear HO132 HB; have HO132 := n0_; have HO136 := n1_; have HO139 := n2_; have HB := n3_; clear n0_ n1_ n2_ n3_; (try clear hb); (try clear hb2); (try clear hk); (try clear hi); (try clear ho0); (try clear ho1)) | ((with_reducible refine gate_dst (N := 1) rfl ?_); (try (refine gate_guard (by rfl) ?_; dsimp only)); refine box_event ?hg (N := 1) ?hd (cs := #[.int .i64 0, .slice none 0 0]) (t := 68) ?hr ?_; (case hd => rfl); (case hg => rfl); (case hr => first | (go_simp; done) | (go_simp; rfl)); intro gb141 hg w30 hbox hb; have n0_ := A4_ (Kd.V_below (Kd.V_elderB q4_7 gb141 (Nat.le_of_eq hg.symm)) hb); have n1_ := A4_ (Kd.V_below (Kd.V_elderB q4_8 gb141 (Nat.le_of_eq hg.symm)) hb); have n2_ := A4_ (Kd.R_below q4_6 hb); have n3_ := A4_ (below_step q4_4 hb); have n4_ := A4_ (hbox); have n5_ := A4_ ((by rw [hg]; exact (below_size q4_4) : w.heap.size ≤ gb141)); have n6_ := A4_ ((by rw [hg]; exact (below_size q4_4) : w.heap.size ≤ gb141)); clear HO132 HO136 HO139 HB; have HO132 := n0_; have HO136 := n1_; have HO139 := n2_; have HB := n3_; have BK141 := n4_; have GW141 := n5_; have GE141 := n6_; clear n0_ n1_ n2_ n3_ n4_ n5_ n6_; clear hb hbox hg; have hcz31_0 : w30.cell? ⟨gb141, 0, none⟩ = some (.int .i64 0) := bc4_ BK141 0; have hcz31_1 : w30.cell? ⟨gb141, 1, none⟩ = some (.slice none 0 0) := bc4_ BK141 1; have hfz31_0 := blk_frozen BK141.out 0; have hfz31_1 := blk_frozen BK141.out 1; obtain ⟨Ao32, co32, eo32⟩ := Kd.V_slice HO136.out; subst eo32) | ((with_reducible refine gate_store (t := 68) (p := 1) rfl ?_); refine store_event (t := 68) (p := 1) (v := ?vo_w33) (w1 := ((w30.setCell ⟨gb141, 0, none⟩ (.int .i64 t133)).setCell ⟨gb141, 1, none⟩ (.slice Ao32 t134.length co32))) ?hg ?ho ?hn ?hr ?_; (case ho => rfl); (case hg => rfl); (case hn => rfl); (case hr => first | (go_simp; done) | (go_simp; rfl)); intro w33 hw; have n0_ : Aside0 (Kd.V (Kd.int .u8) 5 w33 w.heap.size (fun k_ => some k_ ≠ (v138 : Value).ownBlock ∧ k_ ≠ gb141) (.slice Ao28 y130.length co28) y130) := ⟨(by rw [hw]; exact (by (with_reducible repeat (first | apply Kd.V_alloc | apply Kd.V_drewN | apply Kd.V_drew)); exact Kd.V_mono (Kd.V_far (p := ⟨gb141, 1, none⟩) (Kd.V_far (p := ⟨gb141, 0, none⟩) (Kd.V_mono HO132.out (fun k_ hk => (⟨hk, hk.2⟩ : _ ∧ k_ ≠ gb141))) (fun _ hk => hk.2) (.int .i64 t133)) (fun _ hk => hk.2) (.slice Ao32 t134.length co32)) (fun _ hk => ⟨hk.1.1.2, hk.1.2⟩)))⟩; have n1_ : Aside0 (Kd.V k142 142 w33 w.heap.size (fun k_ => some k_ ≠ (v138 : Value).ownBlock ∧ k_ ≠ gb141) (.slice Ao32 t134.length co32) t134) := ⟨(by rw [hw]; exact (by (with_reducible repeat (first | apply Kd.V_alloc | apply Kd.V_drewN | apply Kd.V_drew)); exact Kd.V_mono (Kd.V_far (p := ⟨gb141, 1, none⟩) (Kd.V_far (p := ⟨gb141, 0, none⟩) (Kd.V_mono HO136.out (fun k_ hk => (⟨hk, hk.2⟩ : _ ∧ k_ ≠ gb141))) (fun _ hk => hk.2) (.int .i64 t133)) (fun _ hk => hk.2) (.slice Ao32 t134.length co32)) (fun _ hk => ⟨hk.1.1, hk.1.2⟩)))⟩; have n2_ : Aside0 (Kd.R (Kd.int .u8) 5 w33 w.heap.size (fun _ => True) v138 t137) := ⟨(by rw [hw]; exact (by (with_reducible repeat (first | apply Kd.R_alloc | apply Kd.R_drewN | apply Kd.R_drew)); exact Kd.R_mono (Kd.R_far (p := ⟨gb141, 1, none⟩) (Kd.R_far (p := ⟨gb141, 0, none⟩) (Kd.R_types HO139.out BK141.out q4_25) (fun _ hk => hk.2) (.int .i64 t133)) (fun _ hk => hk.2) (.slice Ao32 t134.length co32)) (fun _ hk => trivial)))⟩; have n3_ : Aside0 (w33.heap[gb141]? = some (.cells #[.int .i64 t133, .slice Ao32 t134.length co32] 68 (0, 0))) := ⟨q4_10⟩; have n4_ : Aside0 (Below w.heap.size w w33) := ⟨(by rw [hw]; exact q4_3)⟩; clear hw HO132 HO136 HO139 BK141 HB; have HO132 := n0_; have HO136 := n1_; have HO139 := n2_; have BK141 := n3_; have HB := n4_; clear n0_ n1_ n2_ n3_ n4_; have hcz34_0 : w33.cell? ⟨gb141, 0, none⟩ = some (.int .i64 t133) := bc4_ BK141 0; have hcz34_1 : w33.cell? ⟨gb141, 1, none⟩ = some (.slice Ao32 t134.length co32) := bc4_ BK141 1; have hfz34_0 := blk_frozen BK141.out 0; have hfz34_1 := blk_frozen BK141.out 1) | ((with_reducible refine gate_dst (N := 17) rfl ?_); (try (refine gate_guard (by rfl) ?_; dsimp only)); refine V_litc _ 5 22 Try.underlying22 Try.underlying5 ?hg (N := 17) ?hd ?hg2 ?ho2 ?hev (xs := ([97] : List Int)) (inner := #[.int .u8 97]) rfl (ok := (fun k_ => some k_ ≠ (v138 : Value).ownBlock ∧ k_ ≠ gb141)) ?hr ((show ∀ k_, w33.heap.size ≤ k_ → (fun k_ => some k_ ≠ (v138 : Value).ownBlock ∧ k_ ≠ gb141) k_ from fun k_ hk => ⟨Kd.fresh' (Kd.R_lt q4_6) k_ hk, Kd.freshB (g := gb141) (o := .cells #[.int .i64 t133, .slice Ao32 t134.length co32] 68 (0, 0)) q4_5 k_ hk⟩) _ (Nat.le_refl _)) (Below.refl _ _) (Nat.le_refl _) q4_25 ?_; (case hd => rfl); (case hg => rfl); (case hg2 => rfl); (case ho2 => rfl); (case hev => exact fun _ => rfl); (case hr => first | (go_simp; done) | (go_simp; rfl)); intro v143 w35 ho36 hb hg_ hnew_; clear hg_ hnew_; (first | rw [← Ny142.out] at ho36 | (simp only [Int.reduceToNat] at ho36; rw [← Ny142.out] at ho36)); have n0_ := A4_ (Kd.V_below q4_7 hb); have n1_ := A4_ (Kd.V_below q4_8 hb); have n2_ := A4_ (Kd.R_below q4_6 hb); have n3_ := A4_ (Kd.V_lower ho36 (below_size q4_3)); have n4_ := A4_ (blk_below (g := gb141) (o := .cells #[.int .i64 t133, .slice Ao32 t134.length co32] 68 (0, 0)) q4_5 hb); have n5_ := A4_ (below_step q4_3 hb); clear HO132 HO136 HO139 BK141 HB; have HO132 := n0_; have HO136 := n1_; have HO139 := n2_; have HO144 := n3_; have BK141 := n4_; have HB := n5_; clear n0_ n1_ n2_ n3_ n4_ n5_; clear hb ho36; obtain ⟨Ao37, co37, eo37⟩ := Kd.V_slice HO144.out; subst eo37) | ((with_reducible refine gate_callee (f := 37) rfl ?_); refine goesL_ (some 19) rfl rfl Try.func37 q4_21 rfl #[.agg #[.int .i64 t133, .slice Ao32 t134.length co32], .int .i64 0, .slice Ao37 y142.length co37, .int .i64 9] rfl q4_12 ?_; (with_reducible refine (inbox_Take.calls k t133 (fun k_ => (some k_ ≠ (v138 : Value).ownBlock ∧ k_ ≠ gb141)) _ _ t134 0 _ _ y142 9 t145 t146 t149 t152 _ ?side1 ?side2 ?side3 A2.out).mono ?_); (case side1 => exact HO136.out); (case side2 => repeat (first | exact (Kd.V_reads' HO144.out).2.2 | (with_reducible refine Kd.C_alloc ?_ _) | (with_reducible refine Kd.C_drewN ?_ _) | (with_reducible refine Kd.C_drew ?_))); (case side3 => exact (Kd.V_reads' HO144.out).2.1); rintro e w38 ⟨v147, v150, rfl, ho0, ho1, hb⟩; refine ⟨_, rfl, ?_⟩; have n0_ := A4_ (Kd.V_elder' q4_7 (Kd.R_base ho1) hb); have n1_ := A4_ (Kd.V_elder' q4_8 (Kd.R_base ho1) hb); have n2_ := A4_ (Kd.R_elder' q4_6 (Kd.R_base ho1) hb); have n3_ := A4_ (Kd.V_elder' q4_14 (Kd.R_base ho1) hb); have n4_ := A4_ (Kd.V_lower (Kd.V_mono (ok' := fun k_ => some k_ ≠ (v150 : Value).ownBlock ∧ some k_ ≠ (v138 : Value).ownBlock ∧ k_ ≠ gb141) ho0 (fun k_ hk_ => ⟨hk_.2, Or.elim hk_.1 (fun hs_ => hs_.1) (fun hn_ => (Kd.fresh' (Kd.R_lt q4_6) k_ hn_)), Or.elim hk_.1 (fun hs_ => hs_.2) (fun hn_ => (Kd.freshB (g := gb141) (o := .cells #[.int .i64 t133, .slice Ao32 t134.length co32] 68 (0, 0)) q4_5 k_ hn_))⟩)) (below_size q4_3)); have n5_ := A4_ (Kd.R_lower (Kd.R_new' (Kd.R_mono (ok' := fun k_ => True) ho1 (fun _ hk_ => trivial)) (Kd.R_lt q4_6)) (below_size q4_3)); have n6_ := A4_ (blk_below (g := gb141) (o := .cells #[.int .i64 t133, .slice Ao32 t134.length co32] 68 (0, 0)) q4_5 hb); have n7_ := A4_ (below_step q4_3 hb); clear HO132 HO136 HO139 HO144 BK141 HB; have HO132 := n0_; have HO136 := n1_; have HO139 := n2_; have HO144 := n3_; have HO148 := n4_; have HO151 := n5_; have BK141 := n6_; have HB := n7_; clear n0_ n1_ n2_ n3_ n4_ n5_ n6_ n7_; (try clear hb); (try clear hb2); (try clear hk); (try clear hi); (try clear ho0); (try clear ho1)) | ((with_reducible refine gate_dst (N := 4) rfl ?_); (try (refine gate_guard (by rfl) ?_; dsimp only)); refine box_event ?hg (N := 4) ?hd (cs := #[.int .i64 0, .slice none 0 0]) (t := 68) ?hr ?_; (case hd => rfl); (case hg => rfl); (case hr => first | (go_simp; done) | (go_simp; rfl)); intro gb153 hg w39 hbox hb; have n0_ := A4_ (Kd.V_below (Kd.V_elderB q4_7 gb153 (Nat.le_of_eq hg.symm)) hb); have n1_ := A4_ (Kd.V_below (Kd.V_elderB q4_8 gb153 (Nat.le_of_eq hg.symm)) hb); have n2_ := A4_ (Kd.R_below q4_6 hb); have n3_ := A4_ (Kd.V_below (Kd.V_elderB q4_14 gb153 (Nat.le_of_eq hg.symm)) hb); have n4_ := A4_ (Kd.V_below (Kd.V_elderB q4_22 gb153 (Nat.le_of_eq hg.symm)) hb); have n5_ := A4_ (Kd.R_below q4_23 hb); have n6_ := A4_ (blk_below (g := gb141) (o := .cells #[.int .i64 t133, .slice Ao32 t134.length co32] 68 (0, 0)) q4_5 hb); have n7_ := A4_ (below_step q4_3 hb); have n8_ := A4_ (hbox); have n9_ := A4_ ((by rw [hg]; exact (below_size q4_3) : w.heap.size ≤ gb153)); have n10_ := A4_ ((by rw [hg]; exact (below_size q4_3) : w.heap.size ≤ gb153)); have n11_ := A4_ ((by rw [hg]; exact Nat.ne_of_lt (blk_lt (g := gb141) (o := .cells #[.int .i64 t133, .slice Ao32 t134.length co32] 68 (0, 0)) q4_5) : gb141 ≠ gb153)); have n12_ := A4_ ((by rw [hg]; exact Nat.ne_of_gt (blk_lt (g := gb141) (o := .cells #[.int .i64 t133, .slice Ao32 t134.length co32] 68 (0, 0)) q4_5) : gb153 ≠ gb141)); clear HO132 HO136 HO139 HO144 HO148 HO151 BK141 HB; have HO132 := n0_; have HO136 := n1_; have HO139 := n2_; have HO144 := n3_; have HO148 := n4_; have HO151 := n5_; have BK141 := n6_; have HB := n7_; have BK153 := n8_; have GW153 := n9_; have GE153 := n10_; have NB141_153 := n11_; have NB153_141 := n12_; clear n0_ n1_ n2_ n3_ n4_ n5_ n6_ n7_ n8_ n9_ n10_ n11_ n12_; clear hb hbox hg; have hnb40 := NB153_141.out; have hnc40 := NB141_153.out; have hcz41_0 : w39.cell? ⟨gb153, 0, none⟩ = some (.int .i64 0) := bc4_ BK153 0; have hcz41_1 : w39.cell? ⟨gb153, 1, none⟩ = some (.slice none 0 0) := bc4_ BK153 1; have hfz41_0 := blk_frozen BK153.out 0; have hfz41_1 := blk_frozen BK153.out 1; obtain ⟨Ao42, co42, eo42⟩ := Kd.V_slice HO148.out; subst eo42) | ((with_reducible refine gate_store (t := 68) (p := 4) rfl ?_); refine store_event (t := 68) (p := 4) (v := ?vo_w43) (w1 := ((w39.setCell ⟨gb153, 0, none⟩ (.int .i64 t145)).setCell ⟨gb153, 1, none⟩ (.slice Ao42 t146.length co42))) ?hg ?ho ?hn ?hr ?_; (case ho => rfl); (case hg => rfl); (case hn => rfl); (case hr => first | (go_simp; done) | (go_simp; rfl)); intro w43 hw; have n0_ : Aside0 (Kd.V (Kd.int .u8) 5 w43 w.heap.size (fun k_ => some k_ ≠ (v138 : Value).ownBlock ∧ some k_ ≠ (v150 : Value).ownBlock ∧ k_ ≠ gb141 ∧ k_ ≠ gb153) (.slice Ao28 y130.length co28) y130) := ⟨(by rw [hw]; exact (by (with_reducible repeat (first | apply Kd.V_alloc | apply Kd.V_drewN | apply Kd.V_drew)); exact Kd.V_mono (Kd.V_far (p := ⟨gb153, 1, none⟩) (Kd.V_far (p := ⟨gb153, 0, none⟩) (Kd.V_mono HO132.out (fun k_ hk => (⟨hk, hk.2⟩ : _ ∧ k_ ≠ gb153))) (fun _ hk => hk.2) (.int .i64 t145)) (fun _ hk => hk.2) (.slice Ao42 t146.length co42)) (fun _ hk => ⟨hk.1.1.1.1, ⟨hk.1.1.2, ⟨hk.1.1.1.2, hk.1.2⟩⟩⟩)))⟩; have n1_ : Aside0 (Kd.V k142 142 w43 w.heap.size (fun k_ => some k_ ≠ (v138 : Value).ownBlock ∧ some k_ ≠ (v150 : Value).ownBlock ∧ k_ ≠ gb141 ∧ k_ ≠ gb153) (.slice Ao32 t134.length co32) t134) := ⟨(by rw [hw]; exact (by (with_reducible repeat (first | apply Kd.V_alloc | apply Kd.V_drewN | apply Kd.V_drew)); exact Kd.V_mono (Kd.V_far (p := ⟨gb153, 1, none⟩) (Kd.V_far (p := ⟨gb153, 0, none⟩) (Kd.V_mono HO136.out (fun k_ hk => (⟨hk, hk.2⟩ : _ ∧ k_ ≠ gb153))) (fun _ hk => hk.2) (.int .i64 t145)) (fun _ hk => hk.2) (.slice Ao42 t146.length co42)) (fun _ hk => ⟨hk.1.1.1.1, ⟨hk.1.1.2, ⟨hk.1.1.1.2, hk.1.2⟩⟩⟩)))⟩; have n2_ : Aside0 (Kd.R (Kd.int .u8) 5 w43 w.heap.size (fun k_ => some k_ ≠ (v150 : Value).ownBlock) v138 t137) := ⟨(by rw [hw]; exact (by (with_reducible repeat (first | apply Kd.R_alloc | apply Kd.R_drewN | apply Kd.R_drew)); exact Kd.R_mono (Kd.R_far (p := ⟨gb153, 1, none⟩) (Kd.R_far (p := ⟨gb153, 0, none⟩) (Kd.R_types HO139.out BK153.out q4_25) (fun _ hk => hk.2) (.int .i64 t145)) (fun _ hk => hk.2) (.slice Ao42 t146.length co42)) (fun _ hk => hk.1.2)))⟩; have n3_ : Aside0 (Kd.V (Kd.int .u8) 5 w43 w.heap.size (fun k_ => some k_ ≠ (v138 : Value).ownBlock ∧ some k_ ≠ (v150 : Value).ownBlock ∧ k_ ≠ gb141 ∧ k_ ≠ gb153) (.slice Ao37 y142.length co37) y142) := ⟨(by rw [hw]; exact (by (with_reducible repeat (first | apply Kd.V_alloc | apply Kd.V_drewN | apply Kd.V_drew)); exact Kd.V_mono (Kd.V_far (p := ⟨gb153, 1, none⟩) (Kd.V_far (p := ⟨gb153, 0, none⟩) (Kd.V_mono HO144.out (fun k_ hk => (⟨hk, hk.2⟩ : _ ∧ k_ ≠ gb153))) (fun _ hk => hk.2) (.int .i64 t145)) (fun _ hk => hk.2) (.slice Ao42 t146.length co42)) (fun _ hk => ⟨hk.1.1.1.1, ⟨hk.1.1.2, ⟨hk.1.1.1.2, hk.1.2⟩⟩⟩)))⟩; have n4_ : Aside0 (Kd.V k142 142 w43 w.heap.size (fun k_ => some k_ ≠ (v138 : Value).ownBlock ∧ some k_ ≠ (v150 : Value).ownBlock ∧ k_ ≠ gb141 ∧ k_ ≠ gb153) (.slice Ao42 t146.length co42) t146) := ⟨(by rw [hw]; exact (by (with_reducible repeat (first | apply Kd.V_alloc | apply Kd.V_drewN | apply Kd.V_drew)); exact Kd.V_mono (Kd.V_far (p := ⟨gb153, 1, none⟩) (Kd.V_far (p := ⟨gb153, 0, none⟩) (Kd.V_mono HO148.out (fun k_ hk => (⟨hk, hk.2⟩ : _ ∧ k_ ≠ gb153))) (fun _ hk => hk.2) (.int .i64 t145)) (fun _ hk => hk.2) (.slice Ao42 t146.length co42)) (fun _ hk => ⟨hk.1.1.2.1, ⟨hk.1.1.1, ⟨hk.1.1.2.2, hk.1.2⟩⟩⟩)))⟩; have n5_ : Aside0 (Kd.R (Kd.int .u8) 5 w43 w.heap.size (fun k_ => some k_ ≠ (v138 : Value).ownBlock) v150 t149) := ⟨(by rw [hw]; exact (by (with_reducible repeat (first | apply Kd.R_alloc | apply Kd.R_drewN | apply Kd.R_drew)); exact Kd.R_mono (Kd.R_far (p := ⟨gb153, 1, none⟩) (Kd.R_far (p := ⟨gb153, 0, none⟩) (Kd.R_types HO151.out BK153.out q4_25) (fun _ hk => hk.2) (.int .i64 t145)) (fun _ hk => hk.2) (.slice Ao42 t146.length co42)) (fun _ hk => hk.1.2)))⟩; have n6_ : Aside0 (w43.heap[gb141]? = some (.cells #[.int .i64 t133, .slice Ao32 t134.length co32] 68 (0, 0))) := ⟨q4_11⟩; have n7_ : Aside0 (w43.heap[gb153]? = some (.cells #[.int .i64 t145, .slice Ao42 t146.length co42] 68 (0, 0))) := ⟨q4_9⟩; have n8_ : Aside0 (Below w.heap.size w w43) := ⟨q4_17⟩; clear hw HO132 HO136 HO139 HO144 HO148 HO151 BK141 BK153 HB; have HO132 := n0_; have HO136 := n1_; have HO139 := n2_; have HO144 := n3_; have HO148 := n4_; have HO151 := n5_; have BK141 := n6_; have BK153 := n7_; have HB := n8_; clear n0_ n1_ n2_ n3_ n4_ n5_ n6_ n7_ n8_; obtain ⟨Ao44, co44, eo44⟩ := Kd.R_slice HO139.out; subst eo44))
    go_ret
    exact ⟨by first | rfl | (simp [errW_none, errW_some] <;> rfl) | (simp [*, errW_none, errW_some] <;> rfl), by repeat (first | (with_reducible first | exact HB.out | apply below_alloc | apply pw_below_drewN | apply below_drew1 | refine below_set ?_ GE141.out | refine below_set ?_ GE153.out) | exact HB.out)⟩
  ·rw [if_neg c4] at H
   have c4b0 : (t152 == 0) = false := beq_eq_false_iff_ne.mpr c4
   have c4b1 : (t152 != 0) = true := bne_iff_ne.mpr c4
   obtain rfl := Option.some.inj H
   go_enter Try.func36, Try.ntmps36
   go_wp2_with (first | ((with_reducible refine gate_dst (N := 9) rfl ?_); (try (refine gate_guard (by rfl) ?_; dsimp only)); refine V_litc _ 5 22 Try.underlying22 Try.underlying5 ?hg (N := 9) ?hd ?hg2 ?ho2 ?hev (xs := ([98] : List Int)) (inner := #[.int .u8 98]) rfl (ok := (fun _ => True)) ?hr ((show ∀ k_, w.heap.size ≤ k_ → (fun _ => True) k_ from fun k_ hk => trivial) _ (Nat.le_refl _)) (Below.refl _ _) (Nat.le_refl _) q4_25 ?_; (case hd => rfl); (case hg => rfl); (case hg2 => rfl); (case ho2 => rfl); (case hev => exact fun _ => rfl); (case hr => first | (go_simp; done) | (go_simp; rfl)); intro v131 w45 ho46 hb hg_ hnew_; clear hg_ hnew_; (first | rw [← Ny130.out] at ho46 | (simp only [Int.reduceToNat] at ho46; rw [← Ny130.out] at ho46)); have n0_ := A4_ (Kd.V_lower ho46 (below_size q4_4)); have n1_ := A4_ (below_step q4_4 hb); clear HB; have HO132 := n0_; have HB := n1_; clear n0_ n1_; clear hb ho46; obtain ⟨Ao47, co47, eo47⟩ := Kd.V_slice HO132.out; subst eo47) | ((with_reducible refine gate_callee (f := 37) rfl ?_); refine goesL_ (some 11) rfl rfl Try.func37 q4_21 rfl #[.agg #[.int .i64 0, .slice none 0 0], .int .i64 1, .slice Ao47 y130.length co47, .int .i64 9] rfl q4_12 ?_; (refine (inbox_Take.calls k 0 (fun k_ => False) _ _ ([] : List (S142)) 1 _ _ y130 9 t133 t134 t137 t140 _ ?side1 ?side2 ?side3 A1.out).mono ?_); (case side1 => exact Kd.V_nil _ _ _ _ _); (case side2 => repeat (first | exact (Kd.V_reads' HO132.out).2.2 | (with_reducible refine Kd.C_alloc ?_ _) | (with_reducible refine Kd.C_drewN ?_ _) | (with_reducible refine Kd.C_drew ?_))); (case side3 => exact (Kd.V_reads' HO132.out).2.1); rintro e w48 ⟨v135, v138, rfl, ho0, ho1, hb⟩; refine ⟨_, rfl, ?_⟩; have n0_ := A4_ (Kd.V_elder' q4_7 (Kd.R_base ho1) hb); have n1_ := A4_ (Kd.V_lower (Kd.V_mono (ok' := fun k_ => some k_ ≠ (v138 : Value).ownBlock) ho0 (fun k_ hk_ => hk_.2)) (below_size q4_4)); have n2_ := A4_ (Kd.R_lower (Kd.R_mono (ok' := fun k_ => True) ho1 (fun _ hk_ => trivial)) (below_size q4_4)); have n3_ := A4_ (below_step q4_4 hb); clear HO132 HB; have HO132 := n0_; have HO136 := n1_; have HO139 := n2_; have HB := n3_; clear n0_ n1_ n2_ n3_; (try clear hb); (try clear hb2); (try clear hk); (try clear hi); (try clear ho0); (try clear ho1)) | ((with_reducible refine gate_dst (N := 1) rfl ?_); (try (refine gate_guard (by rfl) ?_; dsimp only)); refine box_event ?hg (N := 1) ?hd (cs := #[.int .i64 0, .slice none 0 0]) (t := 68) ?hr ?_; (case hd => rfl); (case hg => rfl); (case hr => first | (go_simp; done) | (go_simp; rfl)); intro gb141 hg w49 hbox hb; have n0_ := A4_ (Kd.V_below (Kd.V_elderB q4_7 gb141 (Nat.le_of_eq hg.symm)) hb); have n1_ := A4_ (Kd.V_below (Kd.V_elderB q4_8 gb141 (Nat.le_of_eq hg.symm)) hb); have n2_ := A4_ (Kd.R_below q4_6 hb); have n3_ := A4_ (below_step q4_4 hb); have n4_ := A4_ (hbox); have n5_ := A4_ ((by rw [hg]; exact (below_size q4_4) : w.heap.size ≤ gb141)); have n6_ := A4_ ((by rw [hg]; exact (below_size q4_4) : w.heap.size ≤ gb141)); clear HO132 HO136 HO139 HB; have HO132 := n0_; have HO136 := n1_; have HO139 := n2_; have HB := n3_; have BK141 := n4_; have GW141 := n5_; have GE141 := n6_; clear n0_ n1_ n2_ n3_ n4_ n5_ n6_; clear hb hbox hg; have hcz50_0 : w49.cell? ⟨gb141, 0, none⟩ = some (.int .i64 0) := bc4_ BK141 0; have hcz50_1 : w49.cell? ⟨gb141, 1, none⟩ = some (.slice none 0 0) := bc4_ BK141 1; have hfz50_0 := blk_frozen BK141.out 0; have hfz50_1 := blk_frozen BK141.out 1; obtain ⟨Ao51, co51, eo51⟩ := Kd.V_slice HO136.out; subst eo51) | ((with_reducible refine gate_store (t := 68) (p := 1) rfl ?_); refine store_event (t := 68) (p := 1) (v := ?vo_w52) (w1 := ((w49.setCell ⟨gb141, 0, none⟩ (.int .i64 t133)).setCell ⟨gb141, 1, none⟩ (.slice Ao51 t134.length co51))) ?hg ?ho ?hn ?hr ?_; (case ho => rfl); (case hg => rfl); (case hn => rfl); (case hr => first | (go_simp; done) | (go_simp; rfl)); intro w52 hw; have n0_ : Aside0 (Kd.V (Kd.int .u8) 5 w52 w.heap.size (fun k_ => some k_ ≠ (v138 : Value).ownBlock ∧ k_ ≠ gb141) (.slice Ao47 y130.length co47) y130) := ⟨(by rw [hw]; exact (by (with_reducible repeat (first | apply Kd.V_alloc | apply Kd.V_drewN | apply Kd.V_drew)); exact Kd.V_mono (Kd.V_far (p := ⟨gb141, 1, none⟩) (Kd.V_far (p := ⟨gb141, 0, none⟩) (Kd.V_mono HO132.out (fun k_ hk => (⟨hk, hk.2⟩ : _ ∧ k_ ≠ gb141))) (fun _ hk => hk.2) (.int .i64 t133)) (fun _ hk => hk.2) (.slice Ao51 t134.length co51)) (fun _ hk => ⟨hk.1.1.2, hk.1.2⟩)))⟩; have n1_ : Aside0 (Kd.V k142 142 w52 w.heap.size (fun k_ => some k_ ≠ (v138 : Value).ownBlock ∧ k_ ≠ gb141) (.slice Ao51 t134.length co51) t134) := ⟨(by rw [hw]; exact (by (with_reducible repeat (first | apply Kd.V_alloc | apply Kd.V_drewN | apply Kd.V_drew)); exact Kd.V_mono (Kd.V_far (p := ⟨gb141, 1, none⟩) (Kd.V_far (p := ⟨gb141, 0, none⟩) (Kd.V_mono HO136.out (fun k_ hk => (⟨hk, hk.2⟩ : _ ∧ k_ ≠ gb141))) (fun _ hk => hk.2) (.int .i64 t133)) (fun _ hk => hk.2) (.slice Ao51 t134.length co51)) (fun _ hk => ⟨hk.1.1, hk.1.2⟩)))⟩; have n2_ : Aside0 (Kd.R (Kd.int .u8) 5 w52 w.heap.size (fun _ => True) v138 t137) := ⟨(by rw [hw]; exact (by (with_reducible repeat (first | apply Kd.R_alloc | apply Kd.R_drewN | apply Kd.R_drew)); exact Kd.R_mono (Kd.R_far (p := ⟨gb141, 1, none⟩) (Kd.R_far (p := ⟨gb141, 0, none⟩) (Kd.R_types HO139.out BK141.out q4_25) (fun _ hk => hk.2) (.int .i64 t133)) (fun _ hk => hk.2) (.slice Ao51 t134.length co51)) (fun _ hk => trivial)))⟩; have n3_ : Aside0 (w52.heap[gb141]? = some (.cells #[.int .i64 t133, .slice Ao51 t134.length co51] 68 (0, 0))) := ⟨q4_10⟩; have n4_ : Aside0 (Below w.heap.size w w52) := ⟨(by rw [hw]; exact q4_3)⟩; clear hw HO132 HO136 HO139 BK141 HB; have HO132 := n0_; have HO136 := n1_; have HO139 := n2_; have BK141 := n3_; have HB := n4_; clear n0_ n1_ n2_ n3_ n4_; have hcz53_0 : w52.cell? ⟨gb141, 0, none⟩ = some (.int .i64 t133) := bc4_ BK141 0; have hcz53_1 : w52.cell? ⟨gb141, 1, none⟩ = some (.slice Ao51 t134.length co51) := bc4_ BK141 1; have hfz53_0 := blk_frozen BK141.out 0; have hfz53_1 := blk_frozen BK141.out 1) | ((with_reducible refine gate_dst (N := 17) rfl ?_); (try (refine gate_guard (by rfl) ?_; dsimp only)); refine V_litc _ 5 22 Try.underlying22 Try.underlying5 ?hg (N := 17) ?hd ?hg2 ?ho2 ?hev (xs := ([97] : List Int)) (inner := #[.int .u8 97]) rfl (ok := (fun k_ => some k_ ≠ (v138 : Value).ownBlock ∧ k_ ≠ gb141)) ?hr ((show ∀ k_, w52.heap.size ≤ k_ → (fun k_ => some k_ ≠ (v138 : Value).ownBlock ∧ k_ ≠ gb141) k_ from fun k_ hk => ⟨Kd.fresh' (Kd.R_lt q4_6) k_ hk, Kd.freshB (g := gb141) (o := .cells #[.int .i64 t133, .slice Ao51 t134.length co51] 68 (0, 0)) q4_5 k_ hk⟩) _ (Nat.le_refl _)) (Below.refl _ _) (Nat.le_refl _) q4_25 ?_; (case hd => rfl); (case hg => rfl); (case hg2 => rfl); (case ho2 => rfl); (case hev => exact fun _ => rfl); (case hr => first | (go_simp; done) | (go_simp; rfl)); intro v143 w54 ho55 hb hg_ hnew_; clear hg_ hnew_; (first | rw [← Ny142.out] at ho55 | (simp only [Int.reduceToNat] at ho55; rw [← Ny142.out] at ho55)); have n0_ := A4_ (Kd.V_below q4_7 hb); have n1_ := A4_ (Kd.V_below q4_8 hb); have n2_ := A4_ (Kd.R_below q4_6 hb); have n3_ := A4_ (Kd.V_lower ho55 (below_size q4_3)); have n4_ := A4_ (blk_below (g := gb141) (o := .cells #[.int .i64 t133, .slice Ao51 t134.length co51] 68 (0, 0)) q4_5 hb); have n5_ := A4_ (below_step q4_3 hb); clear HO132 HO136 HO139 BK141 HB; have HO132 := n0_; have HO136 := n1_; have HO139 := n2_; have HO144 := n3_; have BK141 := n4_; have HB := n5_; clear n0_ n1_ n2_ n3_ n4_ n5_; clear hb ho55; obtain ⟨Ao56, co56, eo56⟩ := Kd.V_slice HO144.out; subst eo56) | ((with_reducible refine gate_callee (f := 37) rfl ?_); refine goesL_ (some 19) rfl rfl Try.func37 q4_21 rfl #[.agg #[.int .i64 t133, .slice Ao51 t134.length co51], .int .i64 0, .slice Ao56 y142.length co56, .int .i64 9] rfl q4_12 ?_; (with_reducible refine (inbox_Take.calls k t133 (fun k_ => (some k_ ≠ (v138 : Value).ownBlock ∧ k_ ≠ gb141)) _ _ t134 0 _ _ y142 9 t145 t146 t149 t152 _ ?side1 ?side2 ?side3 A2.out).mono ?_); (case side1 => exact HO136.out); (case side2 => repeat (first | exact (Kd.V_reads' HO144.out).2.2 | (with_reducible refine Kd.C_alloc ?_ _) | (with_reducible refine Kd.C_drewN ?_ _) | (with_reducible refine Kd.C_drew ?_))); (case side3 => exact (Kd.V_reads' HO144.out).2.1); rintro e w57 ⟨v147, v150, rfl, ho0, ho1, hb⟩; refine ⟨_, rfl, ?_⟩; have n0_ := A4_ (Kd.V_elder' q4_7 (Kd.R_base ho1) hb); have n1_ := A4_ (Kd.V_elder' q4_8 (Kd.R_base ho1) hb); have n2_ := A4_ (Kd.R_elder' q4_6 (Kd.R_base ho1) hb); have n3_ := A4_ (Kd.V_elder' q4_14 (Kd.R_base ho1) hb); have n4_ := A4_ (Kd.V_lower (Kd.V_mono (ok' := fun k_ => some k_ ≠ (v150 : Value).ownBlock ∧ some k_ ≠ (v138 : Value).ownBlock ∧ k_ ≠ gb141) ho0 (fun k_ hk_ => ⟨hk_.2, Or.elim hk_.1 (fun hs_ => hs_.1) (fun hn_ => (Kd.fresh' (Kd.R_lt q4_6) k_ hn_)), Or.elim hk_.1 (fun hs_ => hs_.2) (fun hn_ => (Kd.freshB (g := gb141) (o := .cells #[.int .i64 t133, .slice Ao51 t134.length co51] 68 (0, 0)) q4_5 k_ hn_))⟩)) (below_size q4_3)); have n5_ := A4_ (Kd.R_lower (Kd.R_new' (Kd.R_mono (ok' := fun k_ => True) ho1 (fun _ hk_ => trivial)) (Kd.R_lt q4_6)) (below_size q4_3)); have n6_ := A4_ (blk_below (g := gb141) (o := .cells #[.int .i64 t133, .slice Ao51 t134.length co51] 68 (0, 0)) q4_5 hb); have n7_ := A4_ (below_step q4_3 hb); clear HO132 HO136 HO139 HO144 BK141 HB; have HO132 := n0_; have HO136 := n1_; have HO139 := n2_; have HO144 := n3_; have HO148 := n4_; have HO151 := n5_; have BK141 := n6_; have HB := n7_; clear n0_ n1_ n2_ n3_ n4_ n5_ n6_ n7_; (try clear hb); (try clear hb2); (try clear hk); (try clear hi); (try clear ho0); (try clear ho1)) | ((with_reducible refine gate_dst (N := 4) rfl ?_); (try (refine gate_guard (by rfl) ?_; dsimp only)); refine box_event ?hg (N := 4) ?hd (cs := #[.int .i64 0, .slice none 0 0]) (t := 68) ?hr ?_; (case hd => rfl); (case hg => rfl); (case hr => first | (go_simp; done) | (go_simp; rfl)); intro gb153 hg w58 hbox hb; have n0_ := A4_ (Kd.V_below (Kd.V_elderB q4_7 gb153 (Nat.le_of_eq hg.symm)) hb); have n1_ := A4_ (Kd.V_below (Kd.V_elderB q4_8 gb153 (Nat.le_of_eq hg.symm)) hb); have n2_ := A4_ (Kd.R_below q4_6 hb); have n3_ := A4_ (Kd.V_below (Kd.V_elderB q4_14 gb153 (Nat.le_of_eq hg.symm)) hb); have n4_ := A4_ (Kd.V_below (Kd.V_elderB q4_22 gb153 (Nat.le_of_eq hg.symm)) hb); have n5_ := A4_ (Kd.R_below q4_23 hb); have n6_ := A4_ (blk_below (g := gb141) (o := .cells #[.int .i64 t133, .slice Ao51 t134.length co51] 68 (0, 0)) q4_5 hb); have n7_ := A4_ (below_step q4_3 hb); have n8_ := A4_ (hbox); have n9_ := A4_ ((by rw [hg]; exact (below_size q4_3) : w.heap.size ≤ gb153)); have n10_ := A4_ ((by rw [hg]; exact (below_size q4_3) : w.heap.size ≤ gb153)); have n11_ := A4_ ((by rw [hg]; exact Nat.ne_of_lt (blk_lt (g := gb141) (o := .cells #[.int .i64 t133, .slice Ao51 t134.length co51] 68 (0, 0)) q4_5) : gb141 ≠ gb153)); have n12_ := A4_ ((by rw [hg]; exact Nat.ne_of_gt (blk_lt (g := gb141) (o := .cells #[.int .i64 t133, .slice Ao51 t134.length co51] 68 (0, 0)) q4_5) : gb153 ≠ gb141)); clear HO132 HO136 HO139 HO144 HO148 HO151 BK141 HB; have HO132 := n0_; have HO136 := n1_; have HO139 := n2_; have HO144 := n3_; have HO148 := n4_; have HO151 := n5_; have BK141 := n6_; have HB := n7_; have BK153 := n8_; have GW153 := n9_; have GE153 := n10_; have NB141_153 := n11_; have NB153_141 := n12_; clear n0_ n1_ n2_ n3_ n4_ n5_ n6_ n7_ n8_ n9_ n10_ n11_ n12_; clear hb hbox hg; have hnb59 := NB153_141.out; have hnc59 := NB141_153.out; have hcz60_0 : w58.cell? ⟨gb153, 0, none⟩ = some (.int .i64 0) := bc4_ BK153 0; have hcz60_1 : w58.cell? ⟨gb153, 1, none⟩ = some (.slice none 0 0) := bc4_ BK153 1; have hfz60_0 := blk_frozen BK153.out 0; have hfz60_1 := blk_frozen BK153.out 1; obtain ⟨Ao61, co61, eo61⟩ := Kd.V_slice HO148.out; subst eo61) | ((with_reducible refine gate_store (t := 68) (p := 4) rfl ?_); refine store_event (t := 68) (p := 4) (v := ?vo_w62) (w1 := ((w58.setCell ⟨gb153, 0, none⟩ (.int .i64 t145)).setCell ⟨gb153, 1, none⟩ (.slice Ao61 t146.length co61))) ?hg ?ho ?hn ?hr ?_; (case ho => rfl); (case hg => rfl); (case hn => rfl); (case hr => first | (go_simp; done) | (go_simp; rfl)); intro w62 hw; have n0_ : Aside0 (Kd.V (Kd.int .u8) 5 w62 w.heap.size (fun k_ => some k_ ≠ (v138 : Value).ownBlock ∧ some k_ ≠ (v150 : Value).ownBlock ∧ k_ ≠ gb141 ∧ k_ ≠ gb153) (.slice Ao47 y130.length co47) y130) := ⟨(by rw [hw]; exact (by (with_reducible repeat (first | apply Kd.V_alloc | apply Kd.V_drewN | apply Kd.V_drew)); exact Kd.V_mono (Kd.V_far (p := ⟨gb153, 1, none⟩) (Kd.V_far (p := ⟨gb153, 0, none⟩) (Kd.V_mono HO132.out (fun k_ hk => (⟨hk, hk.2⟩ : _ ∧ k_ ≠ gb153))) (fun _ hk => hk.2) (.int .i64 t145)) (fun _ hk => hk.2) (.slice Ao61 t146.length co61)) (fun _ hk => ⟨hk.1.1.1.1, ⟨hk.1.1.2, ⟨hk.1.1.1.2, hk.1.2⟩⟩⟩)))⟩; have n1_ : Aside0 (Kd.V k142 142 w62 w.heap.size (fun k_ => some k_ ≠ (v138 : Value).ownBlock ∧ some k_ ≠ (v150 : Value).ownBlock ∧ k_ ≠ gb141 ∧ k_ ≠ gb153) (.slice Ao51 t134.length co51) t134) := ⟨(by rw [hw]; exact (by (with_reducible repeat (first | apply Kd.V_alloc | apply Kd.V_drewN | apply Kd.V_drew)); exact Kd.V_mono (Kd.V_far (p := ⟨gb153, 1, none⟩) (Kd.V_far (p := ⟨gb153, 0, none⟩) (Kd.V_mono HO136.out (fun k_ hk => (⟨hk, hk.2⟩ : _ ∧ k_ ≠ gb153))) (fun _ hk => hk.2) (.int .i64 t145)) (fun _ hk => hk.2) (.slice Ao61 t146.length co61)) (fun _ hk => ⟨hk.1.1.1.1, ⟨hk.1.1.2, ⟨hk.1.1.1.2, hk.1.2⟩⟩⟩)))⟩; have n2_ : Aside0 (Kd.R (Kd.int .u8) 5 w62 w.heap.size (fun k_ => some k_ ≠ (v150 : Value).ownBlock) v138 t137) := ⟨(by rw [hw]; exact (by (with_reducible repeat (first | apply Kd.R_alloc | apply Kd.R_drewN | apply Kd.R_drew)); exact Kd.R_mono (Kd.R_far (p := ⟨gb153, 1, none⟩) (Kd.R_far (p := ⟨gb153, 0, none⟩) (Kd.R_types HO139.out BK153.out q4_25) (fun _ hk => hk.2) (.int .i64 t145)) (fun _ hk => hk.2) (.slice Ao61 t146.length co61)) (fun _ hk => hk.1.2)))⟩; have n3_ : Aside0 (Kd.V (Kd.int .u8) 5 w62 w.heap.size (fun k_ => some k_ ≠ (v138 : Value).ownBlock ∧ some k_ ≠ (v150 : Value).ownBlock ∧ k_ ≠ gb141 ∧ k_ ≠ gb153) (.slice Ao56 y142.length co56) y142) := ⟨(by rw [hw]; exact (by (with_reducible repeat (first | apply Kd.V_alloc | apply Kd.V_drewN | apply Kd.V_drew)); exact Kd.V_mono (Kd.V_far (p := ⟨gb153, 1, none⟩) (Kd.V_far (p := ⟨gb153, 0, none⟩) (Kd.V_mono HO144.out (fun k_ hk => (⟨hk, hk.2⟩ : _ ∧ k_ ≠ gb153))) (fun _ hk => hk.2) (.int .i64 t145)) (fun _ hk => hk.2) (.slice Ao61 t146.length co61)) (fun _ hk => ⟨hk.1.1.1.1, ⟨hk.1.1.2, ⟨hk.1.1.1.2, hk.1.2⟩⟩⟩)))⟩; have n4_ : Aside0 (Kd.V k142 142 w62 w.heap.size (fun k_ => some k_ ≠ (v138 : Value).ownBlock ∧ some k_ ≠ (v150 : Value).ownBlock ∧ k_ ≠ gb141 ∧ k_ ≠ gb153) (.slice Ao61 t146.length co61) t146) := ⟨(by rw [hw]; exact (by (with_reducible repeat (first | apply Kd.V_alloc | apply Kd.V_drewN | apply Kd.V_drew)); exact Kd.V_mono (Kd.V_far (p := ⟨gb153, 1, none⟩) (Kd.V_far (p := ⟨gb153, 0, none⟩) (Kd.V_mono HO148.out (fun k_ hk => (⟨hk, hk.2⟩ : _ ∧ k_ ≠ gb153))) (fun _ hk => hk.2) (.int .i64 t145)) (fun _ hk => hk.2) (.slice Ao61 t146.length co61)) (fun _ hk => ⟨hk.1.1.2.1, ⟨hk.1.1.1, ⟨hk.1.1.2.2, hk.1.2⟩⟩⟩)))⟩; have n5_ : Aside0 (Kd.R (Kd.int .u8) 5 w62 w.heap.size (fun k_ => some k_ ≠ (v138 : Value).ownBlock) v150 t149) := ⟨(by rw [hw]; exact (by (with_reducible repeat (first | apply Kd.R_alloc | apply Kd.R_drewN | apply Kd.R_drew)); exact Kd.R_mono (Kd.R_far (p := ⟨gb153, 1, none⟩) (Kd.R_far (p := ⟨gb153, 0, none⟩) (Kd.R_types HO151.out BK153.out q4_25) (fun _ hk => hk.2) (.int .i64 t145)) (fun _ hk => hk.2) (.slice Ao61 t146.length co61)) (fun _ hk => hk.1.2)))⟩; have n6_ : Aside0 (w62.heap[gb141]? = some (.cells #[.int .i64 t133, .slice Ao51 t134.length co51] 68 (0, 0))) := ⟨q4_11⟩; have n7_ : Aside0 (w62.heap[gb153]? = some (.cells #[.int .i64 t145, .slice Ao61 t146.length co61] 68 (0, 0))) := ⟨q4_9⟩; have n8_ : Aside0 (Below w.heap.size w w62) := ⟨q4_17⟩; clear hw HO132 HO136 HO139 HO144 HO148 HO151 BK141 BK153 HB; have HO132 := n0_; have HO136 := n1_; have HO139 := n2_; have HO144 := n3_; have HO148 := n4_; have HO151 := n5_; have BK141 := n6_; have BK153 := n7_; have HB := n8_; clear n0_ n1_ n2_ n3_ n4_ n5_ n6_ n7_ n8_))
   go_ret
   exact ⟨by first | rfl | (simp [errW_none, errW_some] <;> rfl) | (simp [*, errW_none, errW_some] <;> rfl), by repeat (first | (with_reducible first | exact HB.out | apply below_alloc | apply pw_below_drewN | apply below_drew1 | refine below_set ?_ GE141.out | refine below_set ?_ GE153.out) | exact HB.out)⟩
 ·rw [if_neg c3] at H
  have c3b0 : (t140 == 0) = false := beq_eq_false_iff_ne.mpr c3
  have c3b1 : (t140 != 0) = true := bne_iff_ne.mpr c3
  obtain rfl := Option.some.inj H
  go_enter Try.func36, Try.ntmps36
  go_wp2_with (first | ((with_reducible refine gate_dst (N := 9) rfl ?_); (try (refine gate_guard (by rfl) ?_; dsimp only)); refine V_litc _ 5 22 Try.underlying22 Try.underlying5 ?hg (N := 9) ?hd ?hg2 ?ho2 ?hev (xs := ([98] : List Int)) (inner := #[.int .u8 98]) rfl (ok := (fun _ => True)) ?hr ((show ∀ k_, w.heap.size ≤ k_ → (fun _ => True) k_ from fun k_ hk => trivial) _ (Nat.le_refl _)) (Below.refl _ _) (Nat.le_refl _) q4_25 ?_; (case hd => rfl); (case hg => rfl); (case hg2 => rfl); (case ho2 => rfl); (case hev => exact fun _ => rfl); (case hr => first | (go_simp; done) | (go_simp; rfl)); intro v131 w63 ho64 hb hg_ hnew_; clear hg_ hnew_; (first | rw [← Ny130.out] at ho64 | (simp only [Int.reduceToNat] at ho64; rw [← Ny130.out] at ho64)); have n0_ := A4_ (Kd.V_lower ho64 (below_size q4_4)); have n1_ := A4_ (below_step q4_4 hb); clear HB; have HO132 := n0_; have HB := n1_; clear n0_ n1_; clear hb ho64; obtain ⟨Ao65, co65, eo65⟩ := Kd.V_slice HO132.out; subst eo65) | ((with_reducible refine gate_callee (f := 37) rfl ?_); refine goesL_ (some 11) rfl rfl Try.func37 q4_21 rfl #[.agg #[.int .i64 0, .slice none 0 0], .int .i64 1, .slice Ao65 y130.length co65, .int .i64 9] rfl q4_12 ?_; (refine (inbox_Take.calls k 0 (fun k_ => False) _ _ ([] : List (S142)) 1 _ _ y130 9 t133 t134 t137 t140 _ ?side1 ?side2 ?side3 A1.out).mono ?_); (case side1 => exact Kd.V_nil _ _ _ _ _); (case side2 => repeat (first | exact (Kd.V_reads' HO132.out).2.2 | (with_reducible refine Kd.C_alloc ?_ _) | (with_reducible refine Kd.C_drewN ?_ _) | (with_reducible refine Kd.C_drew ?_))); (case side3 => exact (Kd.V_reads' HO132.out).2.1); rintro e w66 ⟨v135, v138, rfl, ho0, ho1, hb⟩; refine ⟨_, rfl, ?_⟩; have n0_ := A4_ (Kd.V_elder' q4_7 (Kd.R_base ho1) hb); have n1_ := A4_ (Kd.V_lower (Kd.V_mono (ok' := fun k_ => some k_ ≠ (v138 : Value).ownBlock) ho0 (fun k_ hk_ => hk_.2)) (below_size q4_4)); have n2_ := A4_ (Kd.R_lower (Kd.R_mono (ok' := fun k_ => True) ho1 (fun _ hk_ => trivial)) (below_size q4_4)); have n3_ := A4_ (below_step q4_4 hb); clear HO132 HB; have HO132 := n0_; have HO136 := n1_; have HO139 := n2_; have HB := n3_; clear n0_ n1_ n2_ n3_; (try clear hb); (try clear hb2); (try clear hk); (try clear hi); (try clear ho0); (try clear ho1)) | ((with_reducible refine gate_dst (N := 1) rfl ?_); (try (refine gate_guard (by rfl) ?_; dsimp only)); refine box_event ?hg (N := 1) ?hd (cs := #[.int .i64 0, .slice none 0 0]) (t := 68) ?hr ?_; (case hd => rfl); (case hg => rfl); (case hr => first | (go_simp; done) | (go_simp; rfl)); intro gb141 hg w67 hbox hb; have n0_ := A4_ (Kd.V_below (Kd.V_elderB q4_7 gb141 (Nat.le_of_eq hg.symm)) hb); have n1_ := A4_ (Kd.V_below (Kd.V_elderB q4_8 gb141 (Nat.le_of_eq hg.symm)) hb); have n2_ := A4_ (Kd.R_below q4_6 hb); have n3_ := A4_ (below_step q4_4 hb); have n4_ := A4_ (hbox); have n5_ := A4_ ((by rw [hg]; exact (below_size q4_4) : w.heap.size ≤ gb141)); have n6_ := A4_ ((by rw [hg]; exact (below_size q4_4) : w.heap.size ≤ gb141)); clear HO132 HO136 HO139 HB; have HO132 := n0_; have HO136 := n1_; have HO139 := n2_; have HB := n3_; have BK141 := n4_; have GW141 := n5_; have GE141 := n6_; clear n0_ n1_ n2_ n3_ n4_ n5_ n6_; clear hb hbox hg; have hcz68_0 : w67.cell? ⟨gb141, 0, none⟩ = some (.int .i64 0) := bc4_ BK141 0; have hcz68_1 : w67.cell? ⟨gb141, 1, none⟩ = some (.slice none 0 0) := bc4_ BK141 1; have hfz68_0 := blk_frozen BK141.out 0; have hfz68_1 := blk_frozen BK141.out 1; obtain ⟨Ao69, co69, eo69⟩ := Kd.V_slice HO136.out; subst eo69) | ((with_reducible refine gate_store (t := 68) (p := 1) rfl ?_); refine store_event (t := 68) (p := 1) (v := ?vo_w70) (w1 := ((w67.setCell ⟨gb141, 0, none⟩ (.int .i64 t133)).setCell ⟨gb141, 1, none⟩ (.slice Ao69 t134.length co69))) ?hg ?ho ?hn ?hr ?_; (case ho => rfl); (case hg => rfl); (case hn => rfl); (case hr => first | (go_simp; done) | (go_simp; rfl)); intro w70 hw; have n0_ : Aside0 (Kd.V (Kd.int .u8) 5 w70 w.heap.size (fun k_ => some k_ ≠ (v138 : Value).ownBlock ∧ k_ ≠ gb141) (.slice Ao65 y130.length co65) y130) := ⟨(by rw [hw]; exact (by (with_reducible repeat (first | apply Kd.V_alloc | apply Kd.V_drewN | apply Kd.V_drew)); exact Kd.V_mono (Kd.V_far (p := ⟨gb141, 1, none⟩) (Kd.V_far (p := ⟨gb141, 0, none⟩) (Kd.V_mono HO132.out (fun k_ hk => (⟨hk, hk.2⟩ : _ ∧ k_ ≠ gb141))) (fun _ hk => hk.2) (.int .i64 t133)) (fun _ hk => hk.2) (.slice Ao69 t134.length co69)) (fun _ hk => ⟨hk.1.1.2, hk.1.2⟩)))⟩; have n1_ : Aside0 (Kd.V k142 142 w70 w.heap.size (fun k_ => some k_ ≠ (v138 : Value).ownBlock ∧ k_ ≠ gb141) (.slice Ao69 t134.length co69) t134) := ⟨(by rw [hw]; exact (by (with_reducible repeat (first | apply Kd.V_alloc | apply Kd.V_drewN | apply Kd.V_drew)); exact Kd.V_mono (Kd.V_far (p := ⟨gb141, 1, none⟩) (Kd.V_far (p := ⟨gb141, 0, none⟩) (Kd.V_mono HO136.out (fun k_ hk => (⟨hk, hk.2⟩ : _ ∧ k_ ≠ gb141))) (fun _ hk => hk.2) (.int .i64 t133)) (fun _ hk => hk.2) (.slice Ao69 t134.length co69)) (fun _ hk => ⟨hk.1.1, hk.1.2⟩)))⟩; have n2_ : Aside0 (Kd.R (Kd.int .u8) 5 w70 w.heap.size (fun _ => True) v138 t137) := ⟨(by rw [hw]; exact (by (with_reducible repeat (first | apply Kd.R_alloc | apply Kd.R_drewN | apply Kd.R_drew)); exact Kd.R_mono (Kd.R_far (p := ⟨gb141, 1, none⟩) (Kd.R_far (p := ⟨gb141, 0, none⟩) (Kd.R_types HO139.out BK141.out q4_25) (fun _ hk => hk.2) (.int .i64 t133)) (fun _ hk => hk.2) (.slice Ao69 t134.length co69)) (fun _ hk => trivial)))⟩; have n3_ : Aside0 (w70.heap[gb141]? = some (.cells #[.int .i64 t133, .slice Ao69 t134.length co69] 68 (0, 0))) := ⟨q4_10⟩; have n4_ : Aside0 (Below w.heap.size w w70) := ⟨(by rw [hw]; exact q4_3)⟩; clear hw HO132 HO136 HO139 BK141 HB; have HO132 := n0_; have HO136 := n1_; have HO139 := n2_; have BK141 := n3_; have HB := n4_; clear n0_ n1_ n2_ n3_ n4_; have hcz71_0 : w70.cell? ⟨gb141, 0, none⟩ = some (.int .i64 t133) := bc4_ BK141 0; have hcz71_1 : w70.cell? ⟨gb141, 1, none⟩ = some (.slice Ao69 t134.length co69) := bc4_ BK141 1; have hfz71_0 := blk_frozen BK141.out 0; have hfz71_1 := blk_frozen BK141.out 1) | ((with_reducible refine gate_dst (N := 17) rfl ?_); (try (refine gate_guard (by rfl) ?_; dsimp only)); refine V_litc _ 5 22 Try.underlying22 Try.underlying5 ?hg (N := 17) ?hd ?hg2 ?ho2 ?hev (xs := ([97] : List Int)) (inner := #[.int .u8 97]) rfl (ok := (fun k_ => some k_ ≠ (v138 : Value).ownBlock ∧ k_ ≠ gb141)) ?hr ((show ∀ k_, w70.heap.size ≤ k_ → (fun k_ => some k_ ≠ (v138 : Value).ownBlock ∧ k_ ≠ gb141) k_ from fun k_ hk => ⟨Kd.fresh' (Kd.R_lt q4_6) k_ hk, Kd.freshB (g := gb141) (o := .cells #[.int .i64 t133, .slice Ao69 t134.length co69] 68 (0, 0)) q4_5 k_ hk⟩) _ (Nat.le_refl _)) (Below.refl _ _) (Nat.le_refl _) q4_25 ?_; (case hd => rfl); (case hg => rfl); (case hg2 => rfl); (case ho2 => rfl); (case hev => exact fun _ => rfl); (case hr => first | (go_simp; done) | (go_simp; rfl)); intro v143 w72 ho73 hb hg_ hnew_; clear hg_ hnew_; (first | rw [← Ny142.out] at ho73 | (simp only [Int.reduceToNat] at ho73; rw [← Ny142.out] at ho73)); have n0_ := A4_ (Kd.V_below q4_7 hb); have n1_ := A4_ (Kd.V_below q4_8 hb); have n2_ := A4_ (Kd.R_below q4_6 hb); have n3_ := A4_ (Kd.V_lower ho73 (below_size q4_3)); have n4_ := A4_ (blk_below (g := gb141) (o := .cells #[.int .i64 t133, .slice Ao69 t134.length co69] 68 (0, 0)) q4_5 hb); have n5_ := A4_ (below_step q4_3 hb); clear HO132 HO136 HO139 BK141 HB; have HO132 := n0_; have HO136 := n1_; have HO139 := n2_; have HO144 := n3_; have BK141 := n4_; have HB := n5_; clear n0_ n1_ n2_ n3_ n4_ n5_; clear hb ho73; obtain ⟨Ao74, co74, eo74⟩ := Kd.V_slice HO144.out; subst eo74) | ((with_reducible refine gate_callee (f := 37) rfl ?_); refine goesL_ (some 19) rfl rfl Try.func37 q4_21 rfl #[.agg #[.int .i64 t133, .slice Ao69 t134.length co69], .int .i64 0, .slice Ao74 y142.length co74, .int .i64 9] rfl q4_12 ?_; (with_reducible refine (inbox_Take.calls k t133 (fun k_ => (some k_ ≠ (v138 : Value).ownBlock ∧ k_ ≠ gb141)) _ _ t134 0 _ _ y142 9 t145 t146 t149 t152 _ ?side1 ?side2 ?side3 A2.out).mono ?_); (case side1 => exact HO136.out); (case side2 => repeat (first | exact (Kd.V_reads' HO144.out).2.2 | (with_reducible refine Kd.C_alloc ?_ _) | (with_reducible refine Kd.C_drewN ?_ _) | (with_reducible refine Kd.C_drew ?_))); (case side3 => exact (Kd.V_reads' HO144.out).2.1); rintro e w75 ⟨v147, v150, rfl, ho0, ho1, hb⟩; refine ⟨_, rfl, ?_⟩; have n0_ := A4_ (Kd.V_elder' q4_7 (Kd.R_base ho1) hb); have n1_ := A4_ (Kd.V_elder' q4_8 (Kd.R_base ho1) hb); have n2_ := A4_ (Kd.R_elder' q4_6 (Kd.R_base ho1) hb); have n3_ := A4_ (Kd.V_elder' q4_14 (Kd.R_base ho1) hb); have n4_ := A4_ (Kd.V_lower (Kd.V_mono (ok' := fun k_ => some k_ ≠ (v150 : Value).ownBlock ∧ some k_ ≠ (v138 : Value).ownBlock ∧ k_ ≠ gb141) ho0 (fun k_ hk_ => ⟨hk_.2, Or.elim hk_.1 (fun hs_ => hs_.1) (fun hn_ => (Kd.fresh' (Kd.R_lt q4_6) k_ hn_)), Or.elim hk_.1 (fun hs_ => hs_.2) (fun hn_ => (Kd.freshB (g := gb141) (o := .cells #[.int .i64 t133, .slice Ao69 t134.length co69] 68 (0, 0)) q4_5 k_ hn_))⟩)) (below_size q4_3)); have n5_ := A4_ (Kd.R_lower (Kd.R_new' (Kd.R_mono (ok' := fun k_ => True) ho1 (fun _ hk_ => trivial)) (Kd.R_lt q4_6)) (below_size q4_3)); have n6_ := A4_ (blk_below (g := gb141) (o := .cells #[.int .i64 t133, .slice Ao69 t134.length co69] 68 (0, 0)) q4_5 hb); have n7_ := A4_ (below_step q4_3 hb); clear HO132 HO136 HO139 HO144 BK141 HB; have HO132 := n0_; have HO136 := n1_; have HO139 := n2_; have HO144 := n3_; have HO148 := n4_; have HO151 := n5_; have BK141 := n6_; have HB := n7_; clear n0_ n1_ n2_ n3_ n4_ n5_ n6_ n7_; (try clear hb); (try clear hb2); (try clear hk); (try clear hi); (try clear ho0); (try clear ho1)) | ((with_reducible refine gate_dst (N := 4) rfl ?_); (try (refine gate_guard (by rfl) ?_; dsimp only)); refine box_event ?hg (N := 4) ?hd (cs := #[.int .i64 0, .slice none 0 0]) (t := 68) ?hr ?_; (case hd => rfl); (case hg => rfl); (case hr => first | (go_simp; done) | (go_simp; rfl)); intro gb153 hg w76 hbox hb; have n0_ := A4_ (Kd.V_below (Kd.V_elderB q4_7 gb153 (Nat.le_of_eq hg.symm)) hb); have n1_ := A4_ (Kd.V_below (Kd.V_elderB q4_8 gb153 (Nat.le_of_eq hg.symm)) hb); have n2_ := A4_ (Kd.R_below q4_6 hb); have n3_ := A4_ (Kd.V_below (Kd.V_elderB q4_14 gb153 (Nat.le_of_eq hg.symm)) hb); have n4_ := A4_ (Kd.V_below (Kd.V_elderB q4_22 gb153 (Nat.le_of_eq hg.symm)) hb); have n5_ := A4_ (Kd.R_below q4_23 hb); have n6_ := A4_ (blk_below (g := gb141) (o := .cells #[.int .i64 t133, .slice Ao69 t134.length co69] 68 (0, 0)) q4_5 hb); have n7_ := A4_ (below_step q4_3 hb); have n8_ := A4_ (hbox); have n9_ := A4_ ((by rw [hg]; exact (below_size q4_3) : w.heap.size ≤ gb153)); have n10_ := A4_ ((by rw [hg]; exact (below_size q4_3) : w.heap.size ≤ gb153)); have n11_ := A4_ ((by rw [hg]; exact Nat.ne_of_lt (blk_lt (g := gb141) (o := .cells #[.int .i64 t133, .slice Ao69 t134.length co69] 68 (0, 0)) q4_5) : gb141 ≠ gb153)); have n12_ := A4_ ((by rw [hg]; exact Nat.ne_of_gt (blk_lt (g := gb141) (o := .cells #[.int .i64 t133, .slice Ao69 t134.length co69] 68 (0, 0)) q4_5) : gb153 ≠ gb141)); clear HO132 HO136 HO139 HO144 HO148 HO151 BK141 HB; have HO132 := n0_; have HO136 := n1_; have HO139 := n2_; have HO144 := n3_; have HO148 := n4_; have HO151 := n5_; have BK141 := n6_; have HB := n7_; have BK153 := n8_; have GW153 := n9_; have GE153 := n10_; have NB141_153 := n11_; have NB153_141 := n12_; clear n0_ n1_ n2_ n3_ n4_ n5_ n6_ n7_ n8_ n9_ n10_ n11_ n12_; clear hb hbox hg; have hnb77 := NB153_141.out; have hnc77 := NB141_153.out; have hcz78_0 : w76.cell? ⟨gb153, 0, none⟩ = some (.int .i64 0) := bc4_ BK153 0; have hcz78_1 : w76.cell? ⟨gb153, 1, none⟩ = some (.slice none 0 0) := bc4_ BK153 1; have hfz78_0 := blk_frozen BK153.out 0; have hfz78_1 := blk_frozen BK153.out 1; obtain ⟨Ao79, co79, eo79⟩ := Kd.V_slice HO148.out; subst eo79) | ((with_reducible refine gate_store (t := 68) (p := 4) rfl ?_); refine store_event (t := 68) (p := 4) (v := ?vo_w80) (w1 := ((w76.setCell ⟨gb153, 0, none⟩ (.int .i64 t145)).setCell ⟨gb153, 1, none⟩ (.slice Ao79 t146.length co79))) ?hg ?ho ?hn ?hr ?_; (case ho => rfl); (case hg => rfl); (case hn => rfl); (case hr => first | (go_simp; done) | (go_simp; rfl)); intro w80 hw; have n0_ : Aside0 (Kd.V (Kd.int .u8) 5 w80 w.heap.size (fun k_ => some k_ ≠ (v138 : Value).ownBlock ∧ some k_ ≠ (v150 : Value).ownBlock ∧ k_ ≠ gb141 ∧ k_ ≠ gb153) (.slice Ao65 y130.length co65) y130) := ⟨(by rw [hw]; exact (by (with_reducible repeat (first | apply Kd.V_alloc | apply Kd.V_drewN | apply Kd.V_drew)); exact Kd.V_mono (Kd.V_far (p := ⟨gb153, 1, none⟩) (Kd.V_far (p := ⟨gb153, 0, none⟩) (Kd.V_mono HO132.out (fun k_ hk => (⟨hk, hk.2⟩ : _ ∧ k_ ≠ gb153))) (fun _ hk => hk.2) (.int .i64 t145)) (fun _ hk => hk.2) (.slice Ao79 t146.length co79)) (fun _ hk => ⟨hk.1.1.1.1, ⟨hk.1.1.2, ⟨hk.1.1.1.2, hk.1.2⟩⟩⟩)))⟩; have n1_ : Aside0 (Kd.V k142 142 w80 w.heap.size (fun k_ => some k_ ≠ (v138 : Value).ownBlock ∧ some k_ ≠ (v150 : Value).ownBlock ∧ k_ ≠ gb141 ∧ k_ ≠ gb153) (.slice Ao69 t134.length co69) t134) := ⟨(by rw [hw]; exact (by (with_reducible repeat (first | apply Kd.V_alloc | apply Kd.V_drewN | apply Kd.V_drew)); exact Kd.V_mono (Kd.V_far (p := ⟨gb153, 1, none⟩) (Kd.V_far (p := ⟨gb153, 0, none⟩) (Kd.V_mono HO136.out (fun k_ hk => (⟨hk, hk.2⟩ : _ ∧ k_ ≠ gb153))) (fun _ hk => hk.2) (.int .i64 t145)) (fun _ hk => hk.2) (.slice Ao79 t146.length co79)) (fun _ hk => ⟨hk.1.1.1.1, ⟨hk.1.1.2, ⟨hk.1.1.1.2, hk.1.2⟩⟩⟩)))⟩; have n2_ : Aside0 (Kd.R (Kd.int .u8) 5 w80 w.heap.size (fun k_ => some k_ ≠ (v150 : Value).ownBlock) v138 t137) := ⟨(by rw [hw]; exact (by (with_reducible repeat (first | apply Kd.R_alloc | apply Kd.R_drewN | apply Kd.R_drew)); exact Kd.R_mono (Kd.R_far (p := ⟨gb153, 1, none⟩) (Kd.R_far (p := ⟨gb153, 0, none⟩) (Kd.R_types HO139.out BK153.out q4_25) (fun _ hk => hk.2) (.int .i64 t145)) (fun _ hk => hk.2) (.slice Ao79 t146.length co79)) (fun _ hk => hk.1.2)))⟩; have n3_ : Aside0 (Kd.V (Kd.int .u8) 5 w80 w.heap.size (fun k_ => some k_ ≠ (v138 : Value).ownBlock ∧ some k_ ≠ (v150 : Value).ownBlock ∧ k_ ≠ gb141 ∧ k_ ≠ gb153) (.slice Ao74 y142.length co74) y142) := ⟨(by rw [hw]; exact (by (with_reducible repeat (first | apply Kd.V_alloc | apply Kd.V_drewN | apply Kd.V_drew)); exact Kd.V_mono (Kd.V_far (p := ⟨gb153, 1, none⟩) (Kd.V_far (p := ⟨gb153, 0, none⟩) (Kd.V_mono HO144.out (fun k_ hk => (⟨hk, hk.2⟩ : _ ∧ k_ ≠ gb153))) (fun _ hk => hk.2) (.int .i64 t145)) (fun _ hk => hk.2) (.slice Ao79 t146.length co79)) (fun _ hk => ⟨hk.1.1.1.1, ⟨hk.1.1.2, ⟨hk.1.1.1.2, hk.1.2⟩⟩⟩)))⟩; have n4_ : Aside0 (Kd.V k142 142 w80 w.heap.size (fun k_ => some k_ ≠ (v138 : Value).ownBlock ∧ some k_ ≠ (v150 : Value).ownBlock ∧ k_ ≠ gb141 ∧ k_ ≠ gb153) (.slice Ao79 t146.length co79) t146) := ⟨(by rw [hw]; exact (by (with_reducible repeat (first | apply Kd.V_alloc | apply Kd.V_drewN | apply Kd.V_drew)); exact Kd.V_mono (Kd.V_far (p := ⟨gb153, 1, none⟩) (Kd.V_far (p := ⟨gb153, 0, none⟩) (Kd.V_mono HO148.out (fun k_ hk => (⟨hk, hk.2⟩ : _ ∧ k_ ≠ gb153))) (fun _ hk => hk.2) (.int .i64 t145)) (fun _ hk => hk.2) (.slice Ao79 t146.length co79)) (fun _ hk => ⟨hk.1.1.2.1, ⟨hk.1.1.1, ⟨hk.1.1.2.2, hk.1.2⟩⟩⟩)))⟩; have n5_ : Aside0 (Kd.R (Kd.int .u8) 5 w80 w.heap.size (fun k_ => some k_ ≠ (v138 : Value).ownBlock) v150 t149) := ⟨(by rw [hw]; exact (by (with_reducible repeat (first | apply Kd.R_alloc | apply Kd.R_drewN | apply Kd.R_drew)); exact Kd.R_mono (Kd.R_far (p := ⟨gb153, 1, none⟩) (Kd.R_far (p := ⟨gb153, 0, none⟩) (Kd.R_types HO151.out BK153.out q4_25) (fun _ hk => hk.2) (.int .i64 t145)) (fun _ hk => hk.2) (.slice Ao79 t146.length co79)) (fun _ hk => hk.1.2)))⟩; have n6_ : Aside0 (w80.heap[gb141]? = some (.cells #[.int .i64 t133, .slice Ao69 t134.length co69] 68 (0, 0))) := ⟨q4_11⟩; have n7_ : Aside0 (w80.heap[gb153]? = some (.cells #[.int .i64 t145, .slice Ao79 t146.length co79] 68 (0, 0))) := ⟨q4_9⟩; have n8_ : Aside0 (Below w.heap.size w w80) := ⟨q4_17⟩; clear hw HO132 HO136 HO139 HO144 HO148 HO151 BK141 BK153 HB; have HO132 := n0_; have HO136 := n1_; have HO139 := n2_; have HO144 := n3_; have HO148 := n4_; have HO151 := n5_; have BK141 := n6_; have BK153 := n7_; have HB := n8_; clear n0_ n1_ n2_ n3_ n4_ n5_ n6_ n7_ n8_))
  go_ret
  exact ⟨by first | rfl | (simp [errW_none, errW_some] <;> rfl) | (simp [*, errW_none, errW_some] <;> rfl), by repeat (first | (with_reducible first | exact HB.out | apply below_alloc | apply pw_below_drewN | apply below_drew1 | refine below_set ?_ GE141.out | refine below_set ?_ GE153.out) | exact HB.out)⟩

/-! ### batonlaw32_Ref: function 38 -/
def batonlaw32_Ref.l0 : Nat → Int → Int → List (S142) → Int → List (S144) → Option (Int × (List (S144)))
 | 0, _, _, _, _, _ => none
 | k + 1, x4, x155000, x155001, x157000, x157001 => if x4 < (x155001.length : Int) then (if 0 ≤ x4 then (if x157001.length < 8796093022208 then (batonlaw32_Ref.l0 k (wrap64 (x4 + 1)) x155000 x155001 x157000 (x157001 ++ [(⟨(rd_T142 x155001 x4).f0, (rd_T142 x155001 x4).f1⟩ : S144)])) else (none)) else (none)) else (some (x157000, x157001))
def batonlaw32_Ref.f (k : Nat) (a0_0 : Int) (l0_1 : List (S142)) : Option (Int × (List (S144))) := batonlaw32_Ref.l0 k 0 a0_0 l0_1 a0_0 ([] : List (S144))
theorem batonlaw32_Ref.mono_l : ∀ k, (∀ y0 y1 y2 y3 y4, LeO (batonlaw32_Ref.l0 k y0 y1 y2 y3 y4) (batonlaw32_Ref.l0 (k + 1) y0 y1 y2 y3 y4))
 | 0 => fun _ _ _ _ _ r h => by simp [batonlaw32_Ref.l0] at h
 | k + 1 => by
  have ih0 := batonlaw32_Ref.mono_l k
  ·intro y0 y1 y2 y3 y4
   unfold batonlaw32_Ref.l0
   repeat' first
   | (with_reducible exact ih0 _ _ _ _ _)
   | (with_reducible exact LeO.refl _)
   | (with_reducible exact LeO.none _)
   | (with_reducible refine LeO.ite ?_ ?_)
   | (with_reducible refine LeO.bind ?_ (fun _ => ?_))
   | exact ih0 _ _ _ _ _
   | exact LeO.none _
   | refine LeO.ite ?_ ?_
   | refine LeO.bind ?_ (fun _ => ?_)
theorem batonlaw32_Ref.mono : ∀ a0 a1 k, LeO (batonlaw32_Ref.f k a0 a1) (batonlaw32_Ref.f (k + 1) a0 a1) := by
 intro a0 a1 k
 have ih0 := batonlaw32_Ref.mono_l k
 unfold batonlaw32_Ref.f
 repeat' first
   | (with_reducible exact ih0 _ _ _ _ _)
   | (with_reducible exact LeO.refl _)
   | (with_reducible exact LeO.none _)
   | (with_reducible refine LeO.ite ?_ ?_)
   | (with_reducible refine LeO.bind ?_ (fun _ => ?_))
   | exact ih0 _ _ _ _ _
   | exact LeO.none _
   | refine LeO.ite ?_ ?_
   | refine LeO.bind ?_ (fun _ => ?_)
def batonlaw32_Ref.T5 : Bool × List (List Nat × List Nat) := (true, [([], []), ([0], [0]), ([], []), ([2], [2]), ([], []), ([3, 4], [3, 4]), ([5], [5]), ([6], [6]), ([], []), ([8], [8]), ([], []), ([9, 10], [9, 10]), ([11], [11]), ([12], [12]), ([7, 13], [7, 13]), ([14], [14]), ([1, 15], [1, 15]), ([0, 1, 2, 3, 4, 5, 6, 7, 8, 9, 10, 11, 12, 13, 14, 15, 16], []), ([17, 16, 16, 0, 1, 2, 3, 4, 5, 6, 7, 8, 9, 10, 11, 12, 13, 14, 15, 16], [16, 17])])
def batonlaw32_Ref.B5 : List Nat := [0, 1, 0, 4, 0, 28, 60, 124, 0, 256, 0, 1792, 3840, 7936, 16380, 32764, 65535, 131071, 262143]
theorem batonlaw32_Ref.tab5 : rtab .any (opsOf Try.f38 5) = batonlaw32_Ref.T5 := by kernel_rfl
theorem batonlaw32_Ref.bits5 : waitsOk batonlaw32_Ref.T5.2 batonlaw32_Ref.B5 = true := by kernel_rfl
set_option maxHeartbeats 8000000 in
set_option maxRecDepth 100000 in
theorem batonlaw32_Ref.calls (k : Nat) (a0_0 : Int) (A0_1 : Option Addr) (c0_1 : Nat) (l0_1 : List (S142)) (r1 : Int) (r2 : List (S144)) (w : World) (hr0_1 : Kd.C k142 w A0_1 l0_1.length l0_1) (hc0_1 : l0_1.length ≤ c0_1) (h : batonlaw32_Ref.f k a0_0 l0_1 = some (r1, r2)) :
  Calls Try.prog 38 #[.agg #[.int .i64 a0_0, .slice A0_1 l0_1.length c0_1]] w fun e w' => ∃ v1_ : Value, e = .returned (.agg #[.int .i64 r1, v1_]) ∧ Kd.R k144 144 w' w.heap.size (fun _ => True) v1_ r2 ∧ Below w.heap.size w w' := by
 have hu68 := Try.underlying68
 have hu77 := Try.underlying77
 have hu144 := Try.underlying144
 have HR0_1 := A4_ hr0_1
 have HC0_1 := A4_ hc0_1
 clear hr0_1 hc0_1
 have HB := A4_ (Below.refl w.heap.size w)
 have H : (batonlaw32_Ref.l0 k 0 a0_0 l0_1 a0_0 ([] : List (S144))) = some (r1, r2) := h
 clear h
 have H' := A4_ H
 clear H
 go_enter Try.func38, Try.ntmps38
 go_wp2_with (first | ((with_reducible refine gate_dst (N := 1) rfl ?_); refine box_event ?hg (N := 1) ?hd (cs := #[.int .i64 a0_0, .slice A0_1 l0_1.length c0_1]) (t := 68) ?hr ?_; (case hd => rfl); (case hg => rfl); (case hr => first | (go_simp; done) | (go_simp; rfl)); intro gb154 hg w2 hbox hb; have n0_ := A4_ (below_step q4_4 hb); have n1_ := A4_ (hbox); have n2_ := A4_ ((by rw [hg]; exact (below_size q4_4) : w.heap.size ≤ gb154)); have n3_ := A4_ ((by rw [hg]; exact (below_size q4_4) : w.heap.size ≤ gb154)); clear HB; have HB := n0_; have BK154 := n1_; have GW154 := n2_; have GE154 := n3_; clear n0_ n1_ n2_ n3_; clear hb hbox hg) | ((with_reducible refine gate_dst (N := 2) rfl ?_); refine box_event ?hg (N := 2) ?hd (cs := #[.int .i64 0, .slice none 0 0]) (t := 77) ?hr ?_; (case hd => rfl); (case hg => rfl); (case hr => first | (go_simp; done) | (go_simp; rfl)); intro gb155 hg w3 hbox hb; have n0_ := A4_ (blk_below (g := gb154) (o := .cells #[.int .i64 a0_0, .slice A0_1 l0_1.length c0_1] 68 (0, 0)) q4_15 hb); have n1_ := A4_ (below_step q4_20 hb); have n2_ := A4_ (hbox); have n3_ := A4_ ((by rw [hg]; exact (below_size q4_20) : w.heap.size ≤ gb155)); have n4_ := A4_ ((by rw [hg]; exact (below_size q4_20) : w.heap.size ≤ gb155)); have n5_ := A4_ ((by rw [hg]; exact Nat.ne_of_lt (blk_lt (g := gb154) (o := .cells #[.int .i64 a0_0, .slice A0_1 l0_1.length c0_1] 68 (0, 0)) q4_15) : gb154 ≠ gb155)); have n6_ := A4_ ((by rw [hg]; exact Nat.ne_of_gt (blk_lt (g := gb154) (o := .cells #[.int .i64 a0_0, .slice A0_1 l0_1.length c0_1] 68 (0, 0)) q4_15) : gb155 ≠ gb154)); clear BK154 HB; have BK154 := n0_; have HB := n1_; have BK155 := n2_; have GW155 := n3_; have GE155 := n4_; have NB154_155 := n5_; have NB155_154 := n6_; clear n0_ n1_ n2_ n3_ n4_ n5_ n6_; clear hb hbox hg; have hnb4 := NB154_155.out; have hnc4 := NB155_154.out; have hcz5_0 : w3.cell? ⟨gb154, 0, none⟩ = some (.int .i64 a0_0) := bc4_ BK154 0; have hcz5_1 : w3.cell? ⟨gb154, 1, none⟩ = some (.slice A0_1 l0_1.length c0_1) := bc4_ BK154 1; have hfz5_0 := blk_frozen BK154.out 0; have hfz5_1 := blk_frozen BK154.out 1) | ((with_reducible refine gate_dst (N := 3) rfl ?_); refine box_event ?hg (N := 3) ?hd (cs := #[.int .i64 0, .slice none 0 0]) (t := 77) ?hr ?_; (case hd => rfl); (case hg => rfl); (case hr => first | (go_simp; done) | (go_simp; rfl)); intro gb156 hg w6 hbox hb; have n0_ := A4_ (blk_below (g := gb154) (o := .cells #[.int .i64 a0_0, .slice A0_1 l0_1.length c0_1] 68 (0, 0)) q4_15 hb); have n1_ := A4_ (blk_below (g := gb155) (o := .cells #[.int .i64 0, .slice none 0 0] 77 (0, 0)) q4_18 hb); have n2_ := A4_ (below_step q4_19 hb); have n3_ := A4_ (hbox); have n4_ := A4_ ((by rw [hg]; exact (below_size q4_19) : w.heap.size ≤ gb156)); have n5_ := A4_ ((by rw [hg]; exact (below_size q4_19) : w.heap.size ≤ gb156)); have n6_ := A4_ ((by rw [hg]; exact Nat.ne_of_lt (blk_lt (g := gb154) (o := .cells #[.int .i64 a0_0, .slice A0_1 l0_1.length c0_1] 68 (0, 0)) q4_15) : gb154 ≠ gb156)); have n7_ := A4_ ((by rw [hg]; exact Nat.ne_of_gt (blk_lt (g := gb154) (o := .cells #[.int .i64 a0_0, .slice A0_1 l0_1.length c0_1] 68 (0, 0)) q4_15) : gb156 ≠ gb154)); have n8_ := A4_ ((by rw [hg]; exact Nat.ne_of_lt (blk_lt (g := gb155) (o := .cells #[.int .i64 0, .slice none 0 0] 77 (0, 0)) q4_18) : gb155 ≠ gb156)); have n9_ := A4_ ((by rw [hg]; exact Nat.ne_of_gt (blk_lt (g := gb155) (o := .cells #[.int .i64 0, .slice none 0 0] 77 (0, 0)) q4_18) : gb156 ≠ gb155)); clear BK154 BK155 HB; have BK154 := n0_; have BK155 := n1_; have HB := n2_; have BK156 := n3_; have GW156 := n4_; have GE156 := n5_; have NB154_156 := n6_; have NB156_154 := n7_; have NB155_156 := n8_; have NB156_155 := n9_; clear n0_ n1_ n2_ n3_ n4_ n5_ n6_ n7_ n8_ n9_; clear hb hbox hg; have hnb7 := NB156_154.out; have hnc7 := NB154_156.out; have hnb8 := NB156_155.out; have hnc8 := NB155_156.out; have hcz9_0 : w6.cell? ⟨gb156, 0, none⟩ = some (.int .i64 0) := bc4_ BK156 0; have hcz9_1 : w6.cell? ⟨gb156, 1, none⟩ = some (.slice none 0 0) := bc4_ BK156 1; have hfz9_0 := blk_frozen BK156.out 0; have hfz9_1 := blk_frozen BK156.out 1) | ((with_reducible refine gate_store (t := 77) (p := 3) rfl ?_); refine store_event (t := 77) (p := 3) (v := ?vo_w10) (w1 := ((w6.setCell ⟨gb156, 0, none⟩ (.int .i64 a0_0)).setCell ⟨gb156, 1, none⟩ (.slice none 0 0))) ?hg ?ho ?hn ?hr ?_; (case ho => rfl); (case hg => rfl); (case hn => rfl); (case hr => first | (go_simp; done) | (go_simp; rfl)); intro w10 hw; have n0_ : Aside0 (w10.heap[gb154]? = some (.cells #[.int .i64 a0_0, .slice A0_1 l0_1.length c0_1] 68 (0, 0))) := ⟨(by rw [hw]; exact (by (with_reducible repeat (first | refine blk_drewN ?_ _ | refine blk_drew ?_ | refine blk_alloc ?_ _)); refine blk_far ?_ NB154_156.out _; (with_reducible repeat (first | refine blk_drewN ?_ _ | refine blk_drew ?_ | refine blk_alloc ?_ _)); refine blk_far ?_ NB154_156.out _; (with_reducible repeat (first | refine blk_drewN ?_ _ | refine blk_drew ?_ | refine blk_alloc ?_ _)); exact BK154.out))⟩; have n1_ : Aside0 (w10.heap[gb155]? = some (.cells #[.int .i64 0, .slice none 0 0] 77 (0, 0))) := ⟨(by rw [hw]; exact (by (with_reducible repeat (first | refine blk_drewN ?_ _ | refine blk_drew ?_ | refine blk_alloc ?_ _)); refine blk_far ?_ NB155_156.out _; (with_reducible repeat (first | refine blk_drewN ?_ _ | refine blk_drew ?_ | refine blk_alloc ?_ _)); refine blk_far ?_ NB155_156.out _; (with_reducible repeat (first | refine blk_drewN ?_ _ | refine blk_drew ?_ | refine blk_alloc ?_ _)); exact BK155.out))⟩; have n2_ : Aside0 (w10.heap[gb156]? = some (.cells #[.int .i64 a0_0, .slice none 0 0] 77 (0, 0))) := ⟨(by rw [hw]; exact (by (with_reducible repeat (first | refine blk_drewN ?_ _ | refine blk_drew ?_ | refine blk_alloc ?_ _)); refine blk_put (cs := #[.int .i64 a0_0, .slice none 0 0]) ?_ 1 _ rfl; (with_reducible repeat (first | refine blk_drewN ?_ _ | refine blk_drew ?_ | refine blk_alloc ?_ _)); refine blk_put (cs := #[.int .i64 0, .slice none 0 0]) ?_ 0 _ rfl; (with_reducible repeat (first | refine blk_drewN ?_ _ | refine blk_drew ?_ | refine blk_alloc ?_ _)); exact BK156.out))⟩; have n3_ : Aside0 (Below w.heap.size w w10) := ⟨(by rw [hw]; exact q4_16)⟩; clear hw BK154 BK155 BK156 HB; have BK154 := n0_; have BK155 := n1_; have BK156 := n2_; have HB := n3_; clear n0_ n1_ n2_ n3_))
 go_loopg [4] k (fun kq v4 w' => ∃ (x4_1 : Int) (x157001_1 : List (S144)) (u157001 : Value), v4 = .int .i64 x4_1 ∧ Aside0 (batonlaw32_Ref.l0 kq x4_1 a0_0 l0_1 a0_0 x157001_1 = some (r1, r2)) ∧ Aside0 (kq ≤ k) ∧ Aside0 (Kd.R k144 144 w' w.heap.size (fun _ => True) u157001 x157001_1) ∧ Aside0 (w'.heap[gb154]? = some (.cells #[.int .i64 a0_0, (.slice A0_1 l0_1.length c0_1)] 68 (0, 0))) ∧ Aside0 (w'.heap[gb155]? = some (.cells #[.int .i64 0, (.slice none 0 0)] 77 (0, 0))) ∧ Aside0 (w'.heap[gb156]? = some (.cells #[.int .i64 a0_0, u157001] 77 (0, 0))) ∧ Aside0 (Below w.heap.size w w'))
 case atStart => exact ⟨(0), (([] : List (S144))), (.slice none 0 0), q4_24, H', ⟨Nat.le_refl _⟩, ⟨by first | exact Kd.R_nil _ _ _ _ _ | exact Kd.N_nil _ _ _ _ _ | exact Kd.V_nil _ _ _ _ _ | exact Kd.Q_nil _ _ _ _ _ | exact Kd.S_nil _ _ _ _ _⟩, ⟨by (with_reducible repeat (first | refine blk_drewN ?_ _ | refine blk_drew ?_ | refine blk_alloc ?_ _)); exact BK154.out⟩, ⟨by (with_reducible repeat (first | refine blk_drewN ?_ _ | refine blk_drew ?_ | refine blk_alloc ?_ _)); exact BK155.out⟩, ⟨by (with_reducible repeat (first | refine blk_drewN ?_ _ | refine blk_drew ?_ | refine blk_alloc ?_ _)); exact BK156.out⟩, ⟨by repeat (first | (with_reducible first | exact HB.out | apply below_alloc | apply pw_below_drewN | apply below_drew1 | refine below_set ?_ GE154.out | refine below_set ?_ GE155.out | refine below_set ?_ GE156.out) | exact HB.out)⟩⟩
 case round =>
  clear H'
  try clear p2
  try clear c3
  try clear c4
  try clear c7
  try clear c8
  try clear hcz5_0
  try clear hcz5_1
  try clear hcz9_0
  try clear hcz9_1
  try clear hfz5_0
  try clear hfz5_1
  try clear hfz9_0
  try clear hfz9_1
  obtain ⟨x4_1, x157001_1, u157001, rfl, HA, HK1, HO_157001, BK154, BK155, BK156, HB⟩ := hrel
  cases gk with
  | zero => exact absurd HA.out (by simp [batonlaw32_Ref.l0])
  | succ k1 =>
   have H := HA.out
   clear HA
   simp only [batonlaw32_Ref.l0] at H
   by_cases c11 : x4_1 < (l0_1.length : Int)
   ·rw [if_pos c11] at H
    have c11b0 : decide (x4_1 < (l0_1.length : Int)) = true := decide_eq_true c11
    clear c11
    by_cases c12 : 0 ≤ x4_1
    ·rw [if_pos c12] at H
     have c12b0 : decide (0 ≤ x4_1) = true := decide_eq_true c12
     clear c12
     by_cases c13 : x157001_1.length < 8796093022208
     ·rw [if_pos c13] at H
      have LMc13 := A4_ c13
      clear c13
      obtain ⟨y159, hy159⟩ : ∃ y_ : List (S144), y_ = (x157001_1 ++ [(⟨(rd_T142 l0_1 x4_1).f0, (rd_T142 l0_1 x4_1).f1⟩ : S144)]) := ⟨_, rfl⟩
      replace H : (batonlaw32_Ref.l0 k1 (wrap64 (x4_1 + 1)) a0_0 l0_1 a0_0 y159) = some (r1, r2) := by first | (rw [hy159]; with_reducible exact H) | (have H2_ := (Option.bind_some _ _).symm.trans H; rw [hy159]; with_reducible exact H2_) | (have H2_ := (Option.bind_some _ _).symm.trans H; with_reducible exact H2_) | with_reducible exact H | (rw [hy159]; exact H) | exact H
      have Ny159 := A4_ hy159
      clear hy159
      have H' := A4_ H
      clear H
      have hnb14 := NB154_155.out
      have hnc14 := NB155_154.out
      have hnb15 := NB154_156.out
      have hnc15 := NB156_154.out
      have hcz16_0 : wr.cell? ⟨gb154, 0, none⟩ = some (.int .i64 a0_0) := bc4_ BK154 0
      have hcz16_1 : wr.cell? ⟨gb154, 1, none⟩ = some (.slice A0_1 l0_1.length c0_1) := bc4_ BK154 1
      have hfz16_0 := blk_frozen BK154.out 0
      have hfz16_1 := blk_frozen BK154.out 1
      try go_wp2
      have n0_ := A4_ (Kd.R_drew HO_157001.out)
      have n1_ := A4_ (blk_drew BK154.out)
      have n2_ := A4_ (blk_drew BK155.out)
      have n3_ := A4_ (blk_drew BK156.out)
      have n4_ := A4_ (below_drew1 HB.out)
      clear HO_157001
      clear BK154
      clear BK155
      clear BK156
      clear HB
      have HO_157001 := n0_
      have BK154 := n1_
      have BK155 := n2_
      have BK156 := n3_
      have HB := n4_
      clear n0_ n1_ n2_ n3_ n4_
      have p157 : 0 ≤ (x4_1 : Int) := of_decide_eq_true q4_13
      have q157 : x4_1 < (l0_1.length : Int) := of_decide_eq_true q4_13
      obtain ⟨ad157, e157, hx157_0, hx157_1⟩ := at_T142 HR0_1.out x4_1 p157 q157
      have hw157_1 := hx157_1
      have hw157_0 := hx157_0
      cases e157
      replace hx157_0 := (HB.out.cell (World.block_lt_of_cell? w _ hx157_0)).trans hx157_0
      replace hx157_1 := (HB.out.cell (World.block_lt_of_cell? w _ hx157_1)).trans hx157_1
      replace p157 := eq_true p157
      replace q157 := eq_true q157
      have p158 : 0 ≤ (x4_1 : Int) := of_decide_eq_true q4_13
      have q158 : x4_1 < (l0_1.length : Int) := of_decide_eq_true q4_13
      obtain ⟨ad158, e158, hx158_0, hx158_1⟩ := at_T142 HR0_1.out x4_1 p158 q158
      have hw158_1 := hx158_1
      have hw158_0 := hx158_0
      obtain rfl : ad157 = ad158 := (by injection e158)
      replace hx158_0 := (HB.out.cell (World.block_lt_of_cell? w _ hx158_0)).trans hx158_0
      replace hx158_1 := (HB.out.cell (World.block_lt_of_cell? w _ hx158_1)).trans hx158_1
      replace p158 := eq_true p158
      replace q158 := eq_true q158
      refine start_ (n := 19) (S := fun w' => w'.cell? ⟨gb156, 0, none⟩ = some (.int .i64 a0_0) ∧ w'.cell? ⟨gb156, 1, none⟩ = some (u157001) ∧ w'.cell? ⟨gb154, 0, none⟩ = some (.int .i64 a0_0) ∧ w'.cell? ⟨gb154, 1, none⟩ = some (.slice (some ad157) l0_1.length c0_1) ∧ w'.cell? (ad157.add ((x4_1).toNat * 2)) = some (.int .i64 ((rd_T142 l0_1 x4_1).f0)) ∧ w'.cell? ⟨(ad157.add ((x4_1).toNat * 2)).block, (ad157.add ((x4_1).toNat * 2)).off + 1, none⟩ = some (.int .u8 ((rd_T142 l0_1 x4_1).f1)) ∧ w'.cell? (ad157.add ((x4_1).toNat * 2)) = some (.int .i64 ((rd_T142 l0_1 x4_1).f0)) ∧ w'.cell? ⟨(ad157.add ((x4_1).toNat * 2)).block, (ad157.add ((x4_1).toNat * 2)).off + 1, none⟩ = some (.int .u8 ((rd_T142 l0_1 x4_1).f1))) (ds := [18]) #[false, false, false, false, false, false, false, false, false, false, false, false, false, false, false, false, false, false, false] q4_21 rfl rfl ⟨bc4_ BK156 0, bc4_ BK156 1, bc4_ BK154 0, bc4_ BK154 1, ((HB.out.cell (World.block_lt_of_cell? w _ hw157_0)).trans hw157_0), ((HB.out.cell (World.block_lt_of_cell? w _ hw157_1)).trans hw157_1), ((HB.out.cell (World.block_lt_of_cell? w _ hw158_0)).trans hw158_0), ((HB.out.cell (World.block_lt_of_cell? w _ hw158_1)).trans hw158_1)⟩ (fun hHeld => ?_); refine with_tabW batonlaw32_Ref.tab5 batonlaw32_Ref.bits5 (fun HT_ HW_ => ?_)
      generalize wr.drew = w17 at HO_157001 BK154 BK155 BK156 HB hx157_0 hx157_1 hx158_0 hx158_1 hHeld ⊢
      refine pure_ (i := 0) (N := some 15) (v := ?_) (a' := ?_) #[true, false, false, false, false, false, false, false, false, false, false, false, false, false, false, false, false, false, false] rfl rfl (any_of HT_.out q4_21) (fun _ _ _ h => h) (Or.inl ⟨by rfl, ?_⟩) ?_ ?_
      rotate_left
      ·intro w'
       go_simp
       with_reducible rfl
      rotate_left
      ·simp only [Act.put, List.setIfInBounds_toArray, List.set_cons_zero, List.set_cons_succ, i64_w, i32_w]
       rfl
      refine pure_ (i := 2) (N := some 17) (v := ?_) (a' := ?_) #[true, false, true, false, false, false, false, false, false, false, false, false, false, false, false, false, false, false, false] rfl rfl (any_of HT_.out q4_21) (fun _ _ _ h => h) (Or.inl ⟨by rfl, ?_⟩) ?_ ?_
      rotate_left
      ·intro w'
       go_simp
       with_reducible rfl
      rotate_left
      ·simp only [Act.put, List.setIfInBounds_toArray, List.set_cons_zero, List.set_cons_succ, i64_w, i32_w]
       rfl
      refine pure_ (i := 4) (N := some 19) (v := ?_) (a' := ?_) #[true, false, true, false, true, false, false, false, false, false, false, false, false, false, false, false, false, false, false] rfl rfl (any_of HT_.out q4_21) (fun _ _ _ h => h) (Or.inl ⟨by rfl, ?_⟩) ?_ ?_
      rotate_left
      ·intro w'
       go_simp
       with_reducible rfl
      rotate_left
      ·simp only [Act.put, List.setIfInBounds_toArray, List.set_cons_zero, List.set_cons_succ, i64_w, i32_w]
       rfl
      refine pure_ (i := 8) (N := some 23) (v := ?_) (a' := ?_) #[true, false, true, false, true, false, false, false, true, false, false, false, false, false, false, false, false, false, false] rfl rfl (any_of HT_.out q4_21) (fun _ _ _ h => h) (Or.inl ⟨by rfl, ?_⟩) ?_ ?_
      rotate_left
      ·intro w'
       go_simp
       with_reducible rfl
      rotate_left
      ·simp only [Act.put, List.setIfInBounds_toArray, List.set_cons_zero, List.set_cons_succ, i64_w, i32_w]
       rfl
      refine pure_ (i := 10) (N := some 25) (v := ?_) (a' := ?_) #[true, false, true, false, true, false, false, false, true, false, true, false, false, false, false, false, false, false, false] rfl rfl (any_of HT_.out q4_21) (fun _ _ _ h => h) (Or.inl ⟨by rfl, ?_⟩) ?_ ?_
      rotate_left
      ·intro w'
       go_simp
       with_reducible rfl
      rotate_left
      ·simp only [Act.put, List.setIfInBounds_toArray, List.set_cons_zero, List.set_cons_succ, i64_w, i32_w]
       rfl
      refine take_ (i := 1) (N := some 16) (v := ?_) (a' := ?_) #[true, true, true, false, true, false, false, false, true, false, true, false, false, false, false, false, false, false, false] rfl rfl (take_ofW HT_.out HW_.out q4_21) (fun _ _ _ h => h) (Or.inl ⟨by rfl, ?_⟩) hHeld ?_ ?_
      rotate_left
      ·rintro w' ⟨s0, s1, s2, s3, s4, s5, s6, s7⟩
       go_simp
       with_reducible rfl
      rotate_left
      ·simp only [Act.put, List.setIfInBounds_toArray, List.set_cons_zero, List.set_cons_succ, i64_w, i32_w]
       rfl
      refine take_ (i := 3) (N := some 18) (v := ?_) (a' := ?_) #[true, true, true, true, true, false, false, false, true, false, true, false, false, false, false, false, false, false, false] rfl rfl (take_ofW HT_.out HW_.out q4_21) (fun _ _ _ h => h) (Or.inl ⟨by rfl, ?_⟩) hHeld ?_ ?_
      rotate_left
      ·rintro w' ⟨s0, s1, s2, s3, s4, s5, s6, s7⟩
       go_simp
       with_reducible rfl
      rotate_left
      ·simp only [Act.put, List.setIfInBounds_toArray, List.set_cons_zero, List.set_cons_succ, i64_w, i32_w]
       rfl
      refine pure_ (i := 5) (N := some 20) (v := ?_) (a' := ?_) #[true, true, true, true, true, true, false, false, true, false, true, false, false, false, false, false, false, false, false] rfl rfl (any_of HT_.out q4_21) (fun _ _ _ h => h) (Or.inl ⟨by rfl, ?_⟩) ?_ ?_
      rotate_left
      ·intro w'
       go_simp
       with_reducible rfl
      rotate_left
      ·simp only [Act.put, List.setIfInBounds_toArray, List.set_cons_zero, List.set_cons_succ, i64_w, i32_w]
       rfl
      refine pure_ (i := 6) (N := some 21) (v := ?_) (a' := ?_) #[true, true, true, true, true, true, true, false, true, false, true, false, false, false, false, false, false, false, false] rfl rfl (any_of HT_.out q4_21) (fun _ _ _ h => h) (Or.inl ⟨by rfl, ?_⟩) ?_ ?_
      rotate_left
      ·intro w'
       go_simp
       with_reducible rfl
      rotate_left
      ·simp only [Act.put, List.setIfInBounds_toArray, List.set_cons_zero, List.set_cons_succ, i64_w, i32_w]
       rfl
      refine take_ (i := 7) (N := some 22) (v := ?_) (a' := ?_) #[true, true, true, true, true, true, true, true, true, false, true, false, false, false, false, false, false, false, false] rfl rfl (take_ofW HT_.out HW_.out q4_21) (fun _ _ _ h => h) (Or.inl ⟨by rfl, ?_⟩) hHeld ?_ ?_
      rotate_left
      ·rintro w' ⟨s0, s1, s2, s3, s4, s5, s6, s7⟩
       go_simp
       with_reducible rfl
      rotate_left
      ·simp only [Act.put, List.setIfInBounds_toArray, List.set_cons_zero, List.set_cons_succ, i64_w, i32_w]
       rfl
      refine take_ (i := 9) (N := some 24) (v := ?_) (a' := ?_) #[true, true, true, true, true, true, true, true, true, true, true, false, false, false, false, false, false, false, false] rfl rfl (take_ofW HT_.out HW_.out q4_21) (fun _ _ _ h => h) (Or.inl ⟨by rfl, ?_⟩) hHeld ?_ ?_
      rotate_left
      ·rintro w' ⟨s0, s1, s2, s3, s4, s5, s6, s7⟩
       go_simp
       with_reducible rfl
      rotate_left
      ·simp only [Act.put, List.setIfInBounds_toArray, List.set_cons_zero, List.set_cons_succ, i64_w, i32_w]
       rfl
      refine pure_ (i := 11) (N := some 26) (v := ?_) (a' := ?_) #[true, true, true, true, true, true, true, true, true, true, true, true, false, false, false, false, false, false, false] rfl rfl (any_of HT_.out q4_21) (fun _ _ _ h => h) (Or.inl ⟨by rfl, ?_⟩) ?_ ?_
      rotate_left
      ·intro w'
       go_simp
       with_reducible rfl
      rotate_left
      ·simp only [Act.put, List.setIfInBounds_toArray, List.set_cons_zero, List.set_cons_succ, i64_w, i32_w]
       rfl
      refine pure_ (i := 12) (N := some 27) (v := ?_) (a' := ?_) #[true, true, true, true, true, true, true, true, true, true, true, true, true, false, false, false, false, false, false] rfl rfl (any_of HT_.out q4_21) (fun _ _ _ h => h) (Or.inl ⟨by rfl, ?_⟩) ?_ ?_
      rotate_left
      ·intro w'
       go_simp
       with_reducible rfl
      rotate_left
      ·simp only [Act.put, List.setIfInBounds_toArray, List.set_cons_zero, List.set_cons_succ, i64_w, i32_w]
       rfl
      refine take_ (i := 13) (N := some 28) (v := ?_) (a' := ?_) #[true, true, true, true, true, true, true, true, true, true, true, true, true, true, false, false, false, false, false] rfl rfl (take_ofW HT_.out HW_.out q4_21) (fun _ _ _ h => h) (Or.inl ⟨by rfl, ?_⟩) hHeld ?_ ?_
      rotate_left
      ·rintro w' ⟨s0, s1, s2, s3, s4, s5, s6, s7⟩
       go_simp
       with_reducible rfl
      rotate_left
      ·simp only [Act.put, List.setIfInBounds_toArray, List.set_cons_zero, List.set_cons_succ, i64_w, i32_w]
       rfl
      refine pure_ (i := 14) (N := some 29) (v := ?_) (a' := ?_) #[true, true, true, true, true, true, true, true, true, true, true, true, true, true, true, false, false, false, false] rfl rfl (any_of HT_.out q4_21) (fun _ _ _ h => h) (Or.inl ⟨by rfl, ?_⟩) ?_ ?_
      rotate_left
      ·intro w'
       go_simp
       with_reducible rfl
      rotate_left
      ·simp only [Act.put, List.setIfInBounds_toArray, List.set_cons_zero, List.set_cons_succ, i64_w, i32_w]
       rfl
      refine one_ (i := 15) (N := some 30) #[true, true, true, true, true, true, true, true, true, true, true, true, true, true, true, true, false, false, false] rfl rfl (one_of HT_.out q4_21) q4_25 (fun K hK => ?_)
      refine value_ (w1 := ?_) (v := ?_) (by rfl) rfl ?_ ?_
      rotate_left 2
      ·go_simp
       constructor
       ·rfl
       ·rfl
      refine hK.out _ _ ⟨(blk_cell (blk_alloc BK156.out _) 0).trans rfl, (blk_cell (blk_alloc BK156.out _) 1).trans rfl, (blk_cell (blk_alloc BK154.out _) 0).trans rfl, (blk_cell (blk_alloc BK154.out _) 1).trans rfl, (World.cell?_alloc_lt _ _ _ (World.block_lt_of_cell? _ _ (((HB.out.cell (World.block_lt_of_cell? w _ hw157_0)).trans hw157_0)))).trans (((HB.out.cell (World.block_lt_of_cell? w _ hw157_0)).trans hw157_0)), (World.cell?_alloc_lt _ _ _ (World.block_lt_of_cell? _ _ (((HB.out.cell (World.block_lt_of_cell? w _ hw157_1)).trans hw157_1)))).trans (((HB.out.cell (World.block_lt_of_cell? w _ hw157_1)).trans hw157_1)), (World.cell?_alloc_lt _ _ _ (World.block_lt_of_cell? _ _ (((HB.out.cell (World.block_lt_of_cell? w _ hw158_0)).trans hw158_0)))).trans (((HB.out.cell (World.block_lt_of_cell? w _ hw158_0)).trans hw158_0)), (World.cell?_alloc_lt _ _ _ (World.block_lt_of_cell? _ _ (((HB.out.cell (World.block_lt_of_cell? w _ hw158_1)).trans hw158_1)))).trans (((HB.out.cell (World.block_lt_of_cell? w _ hw158_1)).trans hw158_1))⟩ (fun hHeld => ?_)
      clear hK K
      refine norm_ (a' := ?_) ?_ ?_
      rotate_left
      ·show Act.put _ (some 30) _ = _
       simp only [Act.put, List.setIfInBounds_toArray, List.set_cons_zero, List.set_cons_succ, i64_w, i32_w]
       rfl
      refine one_ (i := 16) (N := some 31) #[true, true, true, true, true, true, true, true, true, true, true, true, true, true, true, true, true, false, false] rfl rfl (one_of HT_.out q4_21) q4_25 (fun K hK => ?_)
      refine Kd.R_append_step k144 (w0 := w) w.heap.size (by rfl) (.tmp 16) (.tmp 30) 75 144 (.agg #[(.int .i64 0), (.int .u8 0)]) 16 rfl Try.underlying75 info144 rfl q4_25 (by omega) u157001 x157001_1 (⟨(rd_T142 l0_1 x4_1).f0, (rd_T142 l0_1 x4_1).f1⟩ : S144) [.int .i64 ((rd_T142 l0_1 x4_1).f0), .int .u8 ((rd_T142 l0_1 x4_1).f1)] (fun _ => True) (fun _ => False) rfl rfl ?aP (fun _ hk => hk.elim) ?aF ?aO ?aB ?aS ?aL ?_
      (case aP => exact k144_mkM _ _ _ (⟨(rd_T142 l0_1 x4_1).f0, (rd_T142 l0_1 x4_1).f1⟩ : S144))
      (case aB => exact q4_16)
      (case aF => exact (fun _ _ => trivial))
      (case aO => exact (by (with_reducible repeat (first | apply Kd.R_alloc | apply Kd.R_drewN | apply Kd.R_drew)); exact HO_157001.out))
      (case aS => exact (below_size q4_16))
      (case aL => have := LMc13.out; omega)
      intro v160 w18 ho hb hg hat
      rw [← Ny159.out] at ho
      have n0_ := A4_ (blk_grown (g := gb154) (o := .cells #[.int .i64 a0_0, .slice (some ad157) l0_1.length c0_1] 68 (0, 0)) q4_15 hg (Kd.R_ne HO_157001.out BK154.out q4_25))
      have n1_ := A4_ (blk_grown (g := gb155) (o := .cells #[.int .i64 0, .slice none 0 0] 77 (0, 0)) q4_18 hg (Kd.R_ne HO_157001.out BK155.out q4_25))
      have n2_ := A4_ (blk_grown (g := gb156) (o := .cells #[.int .i64 a0_0, u157001] 77 (0, 0)) (by (with_reducible repeat (first | refine blk_drewN ?_ _ | refine blk_drew ?_ | refine blk_alloc ?_ _)); exact BK156.out) hg (Kd.R_ne HO_157001.out BK156.out q4_25))
      have n3_ := A4_ (hb)
      have n4_ := A4_ (ho)
      clear BK154
      clear BK155
      clear BK156
      clear HB
      clear HO_157001
      have BK154 := n0_
      have BK155 := n1_
      have BK156 := n2_
      have HB := n3_
      have HO161 := n4_
      clear n0_ n1_ n2_ n3_ n4_
      clear ho hb hg hat
      obtain ⟨Ao19, co19, eo19⟩ := Kd.R_slice HO161.out
      (first | subst eo19 | (injection eo19 with f1_ f2_ f3_; have f4_ := f1_.symm; have f5_ := f3_.symm; clear f1_ f2_ f3_; subst f4_; subst f5_))
      refine hK.out _ _ ⟨bc4_ BK156 0, bc4_ BK156 1, bc4_ BK154 0, bc4_ BK154 1, ((HB.out.cell (World.block_lt_of_cell? w _ hw157_0)).trans hw157_0), ((HB.out.cell (World.block_lt_of_cell? w _ hw157_1)).trans hw157_1), ((HB.out.cell (World.block_lt_of_cell? w _ hw158_0)).trans hw158_0), ((HB.out.cell (World.block_lt_of_cell? w _ hw158_1)).trans hw158_1)⟩ (fun hHeld => ?_)
      clear hK K
      refine norm_ (a' := ?_) ?_ ?_
      rotate_left
      ·show Act.put _ (some 31) _ = _
       simp only [Act.put, List.setIfInBounds_toArray, List.set_cons_zero, List.set_cons_succ, i64_w, i32_w]
       rfl
      refine pure_ (i := 17) (N := some 32) (v := ?_) (a' := ?_) #[true, true, true, true, true, true, true, true, true, true, true, true, true, true, true, true, true, true, false] rfl rfl (any_of HT_.out q4_21) (fun _ _ _ h => h) (Or.inl ⟨by rfl, ?_⟩) ?_ ?_
      rotate_left
      ·intro w'
       go_simp
       with_reducible rfl
      rotate_left
      ·simp only [Act.put, List.setIfInBounds_toArray, List.set_cons_zero, List.set_cons_succ, i64_w, i32_w]
       rfl
      refine last_ (i := 18) (N := none) #[true, true, true, true, true, true, true, true, true, true, true, true, true, true, true, true, true, true, true] rfl rfl (one_of HT_.out q4_21) q4_25 (fun K hK => ?_)
      have hs20 : w18.cell? ⟨gb156, 1, none⟩ = some (u157001) := bc4_ BK156 1
      have hfs20 := blk_frozen BK156.out 1
      have hns20_0 := NB154_156.out
      have hns20_1 := NB155_156.out
      have hms20_0 := NB156_154.out
      have hms20_1 := NB156_155.out
      refine skip_ (w1 := ?_) (by rfl) rfl ?_ ?_
      rotate_left
      ·go_simp
       rfl
      refine hK.out _ _ ?_
      clear hK K
      refine done_ (done_of HT_.out q4_21) ?_
      try go_wp2
      go_roundg k1
      case measure => have := HK1.out; omega
      case rel => exact ⟨(wrap64 (x4_1 + 1)), (y159), (.slice Ao19 y159.length co19), q4_24, H', ⟨by have := HK1.out; omega⟩, ⟨by (with_reducible repeat (first | apply Kd.R_alloc | apply Kd.R_drewN | apply Kd.R_drew)); exact Kd.R_mono (Kd.R_far (p := ⟨gb156, 1, none⟩) (Kd.R_types HO161.out BK156.out q4_25) (fun _ hk => hk.2) (.slice Ao19 y159.length co19)) (fun _ hk => trivial)⟩, ⟨by (with_reducible repeat (first | refine blk_drewN ?_ _ | refine blk_drew ?_ | refine blk_alloc ?_ _)); refine blk_far ?_ NB154_156.out _; (with_reducible repeat (first | refine blk_drewN ?_ _ | refine blk_drew ?_ | refine blk_alloc ?_ _)); exact BK154.out⟩, ⟨by (with_reducible repeat (first | refine blk_drewN ?_ _ | refine blk_drew ?_ | refine blk_alloc ?_ _)); refine blk_far ?_ NB155_156.out _; (with_reducible repeat (first | refine blk_drewN ?_ _ | refine blk_drew ?_ | refine blk_alloc ?_ _)); exact BK155.out⟩, ⟨by (with_reducible repeat (first | refine blk_drewN ?_ _ | refine blk_drew ?_ | refine blk_alloc ?_ _)); refine blk_put (cs := #[.int .i64 a0_0, u157001]) ?_ 1 _ rfl; (with_reducible repeat (first | refine blk_drewN ?_ _ | refine blk_drew ?_ | refine blk_alloc ?_ _)); exact BK156.out⟩, ⟨by repeat (first | (with_reducible first | exact HB.out | apply below_alloc | apply pw_below_drewN | apply below_drew1 | refine below_set ?_ GE154.out | refine below_set ?_ GE155.out | refine below_set ?_ GE156.out) | exact HB.out)⟩⟩
     ·rw [if_neg c13] at H
      exact absurd H (by simp)
    ·rw [if_neg c12] at H
     exact absurd H (by simp)
   ·rw [if_neg c11] at H
    have c11b0 : decide (x4_1 < (l0_1.length : Int)) = false := decide_eq_false c11
    clear c11
    simp only [Option.some.injEq, Prod.mk.injEq] at H
    obtain ⟨rfl, rfl⟩ := H
    have hnb21 := NB154_155.out
    have hnc21 := NB155_154.out
    have hnb22 := NB154_156.out
    have hnc22 := NB156_154.out
    have hcz23_0 : wr.cell? ⟨gb154, 0, none⟩ = some (.int .i64 a0_0) := bc4_ BK154 0
    have hcz23_1 : wr.cell? ⟨gb154, 1, none⟩ = some (.slice A0_1 l0_1.length c0_1) := bc4_ BK154 1
    have hfz23_0 := blk_frozen BK154.out 0
    have hfz23_1 := blk_frozen BK154.out 1
    have hnb24 := NB156_155.out
    have hnc24 := NB155_156.out
    have hcz25_0 : wr.cell? ⟨gb156, 0, none⟩ = some (.int .i64 a0_0) := bc4_ BK156 0
    have hcz25_1 : wr.cell? ⟨gb156, 1, none⟩ = some (u157001) := bc4_ BK156 1
    have hfz25_0 := blk_frozen BK156.out 0
    have hfz25_1 := blk_frozen BK156.out 1
    have hcz26_0 : wr.cell? ⟨gb155, 0, none⟩ = some (.int .i64 0) := bc4_ BK155 0
    have hcz26_1 : wr.cell? ⟨gb155, 1, none⟩ = some (.slice none 0 0) := bc4_ BK155 1
    have hfz26_0 := blk_frozen BK155.out 0
    have hfz26_1 := blk_frozen BK155.out 1
    obtain ⟨Ao27, co27, eo27⟩ := Kd.R_slice HO_157001.out
    subst eo27
    go_wp2_with (first | ((with_reducible refine gate_store (t := 77) (p := 2) rfl ?_); refine store_event (t := 77) (p := 2) (v := ?vo_w28) (w1 := ((wr.setCell ⟨gb155, 0, none⟩ (.int .i64 a0_0)).setCell ⟨gb155, 1, none⟩ (.slice Ao27 x157001_1.length co27))) ?hg ?ho ?hn ?hr ?_; (case ho => rfl); (case hg => rfl); (case hn => rfl); (case hr => first | (go_simp; done) | (go_simp; rfl)); intro w28 hw; have n0_ : Aside0 (Kd.R k144 144 w28 w.heap.size (fun _ => True) (.slice Ao27 x157001_1.length co27) x157001_1) := ⟨(by rw [hw]; exact (by (with_reducible repeat (first | apply Kd.R_alloc | apply Kd.R_drewN | apply Kd.R_drew)); exact Kd.R_mono (Kd.R_far (p := ⟨gb155, 1, none⟩) (Kd.R_far (p := ⟨gb155, 0, none⟩) (Kd.R_types HO_157001.out BK155.out q4_25) (fun _ hk => hk.2) (.int .i64 a0_0)) (fun _ hk => hk.2) (.slice Ao27 x157001_1.length co27)) (fun _ hk => trivial)))⟩; have n1_ : Aside0 (w28.heap[gb154]? = some (.cells #[.int .i64 a0_0, .slice A0_1 l0_1.length c0_1] 68 (0, 0))) := ⟨(by rw [hw]; exact (by (with_reducible repeat (first | refine blk_drewN ?_ _ | refine blk_drew ?_ | refine blk_alloc ?_ _)); refine blk_far ?_ NB154_155.out _; (with_reducible repeat (first | refine blk_drewN ?_ _ | refine blk_drew ?_ | refine blk_alloc ?_ _)); refine blk_far ?_ NB154_155.out _; (with_reducible repeat (first | refine blk_drewN ?_ _ | refine blk_drew ?_ | refine blk_alloc ?_ _)); exact BK154.out))⟩; have n2_ : Aside0 (w28.heap[gb155]? = some (.cells #[.int .i64 a0_0, .slice Ao27 x157001_1.length co27] 77 (0, 0))) := ⟨(by rw [hw]; exact (by (with_reducible repeat (first | refine blk_drewN ?_ _ | refine blk_drew ?_ | refine blk_alloc ?_ _)); refine blk_put (cs := #[.int .i64 a0_0, .slice none 0 0]) ?_ 1 _ rfl; (with_reducible repeat (first | refine blk_drewN ?_ _ | refine blk_drew ?_ | refine blk_alloc ?_ _)); refine blk_put (cs := #[.int .i64 0, .slice none 0 0]) ?_ 0 _ rfl; (with_reducible repeat (first | refine blk_drewN ?_ _ | refine blk_drew ?_ | refine blk_alloc ?_ _)); exact BK155.out))⟩; have n3_ : Aside0 (w28.heap[gb156]? = some (.cells #[.int .i64 a0_0, .slice Ao27 x157001_1.length co27] 77 (0, 0))) := ⟨(by rw [hw]; exact (by (with_reducible repeat (first | refine blk_drewN ?_ _ | refine blk_drew ?_ | refine blk_alloc ?_ _)); refine blk_far ?_ NB156_155.out _; (with_reducible repeat (first | refine blk_drewN ?_ _ | refine blk_drew ?_ | refine blk_alloc ?_ _)); refine blk_far ?_ NB156_155.out _; (with_reducible repeat (first | refine blk_drewN ?_ _ | refine blk_drew ?_ | refine blk_alloc ?_ _)); exact BK156.out))⟩; have n4_ : Aside0 (Below w.heap.size w w28) := ⟨(by rw [hw]; exact q4_16)⟩; clear hw HO_157001 BK154 BK155 BK156 HB; have HO_157001 := n0_; have BK154 := n1_; have BK155 := n2_; have BK156 := n3_; have HB := n4_; clear n0_ n1_ n2_ n3_ n4_))
    refine bodyPost_ret (results_cell_row rfl _ _ gb155 77 #[.int .i64 a0_0, .slice Ao27 x157001_1.length co27] (0, 0) _ rfl q4_18 Try.underlying77 rfl q4_21) rfl ?_
    exact ⟨_, by first | rfl | (simp [errW_none, errW_some] <;> rfl) | (simp [*, errW_none, errW_some] <;> rfl), by (with_reducible repeat (first | apply Kd.R_alloc | apply Kd.R_drewN | apply Kd.R_drew)); exact HO_157001.out, by repeat (first | (with_reducible first | exact HB.out | apply below_alloc | apply pw_below_drewN | apply below_drew1 | refine below_set ?_ GE154.out | refine below_set ?_ GE155.out | refine below_set ?_ GE156.out) | exact HB.out)⟩

/-! ### batonref32_Right: function 39 -/
mutual
def batonref32_Right.j0 : Nat → Bool → Int → List (S144) → Option (Bool)
 | 0, _, _, _ => none
 | k + 1, x12, x163000, x163001 => if x12 = true then (some false) else (batonref32_Right.l0 k 0 x163000 x163001)
def batonref32_Right.l0 : Nat → Int → Int → List (S144) → Option (Bool)
 | 0, _, _, _ => none
 | k + 1, x3, x163000, x163001 => if x3 < (x163001.length : Int) then (if 0 ≤ x3 then (if ((rd_T144 x163001 x3).f0) ≤ x163000 then (some false) else (if ((rd_T144 x163001 x3).f0) ≥ (wrap64 (x163000 + 64)) then (some false) else (if ((rd_T144 x163001 x3).f0) ≥ 281474976710656 then (some false) else (if x3 > 0 then (if 0 ≤ (wrap64 (x3 - 1)) then (if (wrap64 (x3 - 1)) < (x163001.length : Int) then (if ((rd_T144 x163001 x3).f0) ≤ ((rd_T144 x163001 (wrap64 (x3 - 1))).f0) then (some false) else (batonref32_Right.l0 k (wrap64 (x3 + 1)) x163000 x163001)) else (none)) else (none)) else (batonref32_Right.l0 k (wrap64 (x3 + 1)) x163000 x163001))))) else (none)) else (some true)
end
def batonref32_Right.f (k : Nat) (a0_0 : Int) (l0_1 : List (S144)) : Option (Bool) := if a0_0 < 0 then (batonref32_Right.j0 k true a0_0 l0_1) else (batonref32_Right.j0 k (decide (a0_0 > 281474976710656)) a0_0 l0_1)
theorem batonref32_Right.mono_l : ∀ k, (∀ y0 y1 y2, LeO (batonref32_Right.j0 k y0 y1 y2) (batonref32_Right.j0 (k + 1) y0 y1 y2)) ∧ (∀ y0 y1 y2, LeO (batonref32_Right.l0 k y0 y1 y2) (batonref32_Right.l0 (k + 1) y0 y1 y2))
 | 0 => ⟨fun _ _ _ r h => by simp [batonref32_Right.j0] at h, fun _ _ _ r h => by simp [batonref32_Right.l0] at h⟩
 | k + 1 => by
  obtain ⟨ih0, ih1⟩ := batonref32_Right.mono_l k
  refine ⟨?_, ?_⟩
  ·intro y0 y1 y2
   unfold batonref32_Right.j0
   repeat' first
   | (with_reducible exact ih0 _ _ _)
   | (with_reducible exact ih1 _ _ _)
   | (with_reducible exact LeO.refl _)
   | (with_reducible exact LeO.none _)
   | (with_reducible refine LeO.ite ?_ ?_)
   | (with_reducible refine LeO.bind ?_ (fun _ => ?_))
   | exact ih0 _ _ _
   | exact ih1 _ _ _
   | exact LeO.none _
   | refine LeO.ite ?_ ?_
   | refine LeO.bind ?_ (fun _ => ?_)
  ·intro y0 y1 y2
   unfold batonref32_Right.l0
   repeat' first
   | (with_reducible exact ih0 _ _ _)
   | (with_reducible exact ih1 _ _ _)
   | (with_reducible exact LeO.refl _)
   | (with_reducible exact LeO.none _)
   | (with_reducible refine LeO.ite ?_ ?_)
   | (with_reducible refine LeO.bind ?_ (fun _ => ?_))
   | exact ih0 _ _ _
   | exact ih1 _ _ _
   | exact LeO.none _
   | refine LeO.ite ?_ ?_
   | refine LeO.bind ?_ (fun _ => ?_)
theorem batonref32_Right.mono : ∀ a0 a1 k, LeO (batonref32_Right.f k a0 a1) (batonref32_Right.f (k + 1) a0 a1) := by
 intro a0 a1 k
 obtain ⟨ih0, ih1⟩ := batonref32_Right.mono_l k
 unfold batonref32_Right.f
 repeat' first
   | (with_reducible exact ih0 _ _ _)
   | (with_reducible exact ih1 _ _ _)
   | (with_reducible exact LeO.refl _)
   | (with_reducible exact LeO.none _)
   | (with_reducible refine LeO.ite ?_ ?_)
   | (with_reducible refine LeO.bind ?_ (fun _ => ?_))
   | exact ih0 _ _ _
   | exact ih1 _ _ _
   | exact LeO.none _
   | refine LeO.ite ?_ ?_
   | refine LeO.bind ?_ (fun _ => ?_)
set_option maxHeartbeats 8000000 in
set_option maxRecDepth 100000 in
theorem batonref32_Right.calls (k : Nat) (a0_0 : Int) (A0_1 : Option Addr) (c0_1 : Nat) (l0_1 : List (S144)) (r : Bool) (w : World) (hr0_1 : Kd.C k144 w A0_1 l0_1.length l0_1) (hc0_1 : l0_1.length ≤ c0_1) (h : batonref32_Right.f k a0_0 l0_1 = some r) :
  Calls Try.prog 39 #[.agg #[.int .i64 a0_0, .slice A0_1 l0_1.length c0_1]] w fun e w' => e = .returned (.bool r) ∧ Below w.heap.size w w' := by
 have hu77 := Try.underlying77
 have HR0_1 := A4_ hr0_1
 have HC0_1 := A4_ hc0_1
 clear hr0_1 hc0_1
 have HB := A4_ (Below.refl w.heap.size w)
 have H : (if a0_0 < 0 then (batonref32_Right.j0 k true a0_0 l0_1) else (batonref32_Right.j0 k (decide (a0_0 > 281474976710656)) a0_0 l0_1)) = some r := h
 clear h
 have HC2 := A4_ H
 clear H
 go_enter Try.func39, Try.ntmps39
 go_upto_region 1 with (first | ((with_reducible refine gate_dst (N := 1) rfl ?_); refine box_event ?hg (N := 1) ?hd (cs := #[.int .i64 a0_0, .slice A0_1 l0_1.length c0_1]) (t := 77) ?hr ?_; (case hd => rfl); (case hg => rfl); (case hr => first | (go_simp; done) | (go_simp; rfl)); intro gb162 hg w3 hbox hb; have n0_ := A4_ (below_step q4_4 hb); have n1_ := A4_ (hbox); have n2_ := A4_ ((by rw [hg]; exact (below_size q4_4) : w.heap.size ≤ gb162)); have n3_ := A4_ ((by rw [hg]; exact (below_size q4_4) : w.heap.size ≤ gb162)); clear HB; have HB := n0_; have BK162 := n1_; have GW162 := n2_; have GE162 := n3_; clear n0_ n1_ n2_ n3_; clear hb hbox hg))
 (try simp only [Act.put, List.setIfInBounds_toArray, List.set_cons_zero, List.set_cons_succ])
 go_cut [12] (fun v12 wc => ∃ (kq : Nat) (x12_1 : Bool), v12 = .bool x12_1 ∧ Aside0 (batonref32_Right.j0 kq x12_1 a0_0 l0_1 = some r) ∧ Aside0 (kq ≤ k) ∧ Aside0 (wc.heap[gb162]? = some (.cells #[.int .i64 a0_0, (.slice A0_1 l0_1.length c0_1)] 77 (0, 0))) ∧ Aside0 (Below w.heap.size w wc))
 case first =>
  have H := HC2.out
  clear HC2
  by_cases c4 : a0_0 < 0
  ·rw [if_pos c4] at H
   have c4b0 : decide (a0_0 < 0) = true := decide_eq_true c4
   clear c4
   (first | rw [c4b0] | (simp only [i64_w, i32_w]; rw [c4b0]) | rw [c4b1] | rw [c4b2] | skip)
   have H' := A4_ H
   clear H
   have hcz5_0 : w3.cell? ⟨gb162, 0, none⟩ = some (.int .i64 a0_0) := bc4_ BK162 0
   have hcz5_1 : w3.cell? ⟨gb162, 1, none⟩ = some (.slice A0_1 l0_1.length c0_1) := bc4_ BK162 1
   have hfz5_0 := blk_frozen BK162.out 0
   have hfz5_1 := blk_frozen BK162.out 1
   go_wp2
   go_meet
   case rel => exact ⟨_, (true), q4_24, H', ⟨by first | omega | exact Nat.le_refl _⟩, ⟨by (with_reducible repeat (first | refine blk_drewN ?_ _ | refine blk_drew ?_ | refine blk_alloc ?_ _)); exact BK162.out⟩, ⟨by repeat (first | (with_reducible first | exact HB.out | apply below_alloc | apply pw_below_drewN | apply below_drew1 | refine below_set ?_ GE162.out) | exact HB.out)⟩⟩
  ·rw [if_neg c4] at H
   have c4b0 : decide (a0_0 < 0) = false := decide_eq_false c4
   clear c4
   (first | rw [c4b0] | (simp only [i64_w, i32_w]; rw [c4b0]) | rw [c4b1] | rw [c4b2] | skip)
   have H' := A4_ H
   clear H
   have hcz6_0 : w3.cell? ⟨gb162, 0, none⟩ = some (.int .i64 a0_0) := bc4_ BK162 0
   have hcz6_1 : w3.cell? ⟨gb162, 1, none⟩ = some (.slice A0_1 l0_1.length c0_1) := bc4_ BK162 1
   have hfz6_0 := blk_frozen BK162.out 0
   have hfz6_1 := blk_frozen BK162.out 1
   go_wp2
   go_meet
   case rel => exact ⟨_, (decide (a0_0 > 281474976710656)), q4_24, H', ⟨by first | omega | exact Nat.le_refl _⟩, ⟨by (with_reducible repeat (first | refine blk_drewN ?_ _ | refine blk_drew ?_ | refine blk_alloc ?_ _)); exact BK162.out⟩, ⟨by repeat (first | (with_reducible first | exact HB.out | apply below_alloc | apply pw_below_drewN | apply below_drew1 | refine below_set ?_ GE162.out) | exact HB.out)⟩⟩
 case rest =>
  clear HC2
  try clear p2
  try clear c3
  try clear c4
  try clear c4b0
  try clear c4b1
  try clear c4b2
  try clear hcz5_0
  try clear hcz5_1
  try clear hcz6_0
  try clear hcz6_1
  try clear hfz5_0
  try clear hfz5_1
  try clear hfz6_0
  try clear hfz6_1
  obtain ⟨kq, x12_1, rfl, HA, HJ1, BK162, HB⟩ := hcut
  cases kq with
  | zero => exact absurd HA.out (by simp [batonref32_Right.j0])
  | succ kj1 =>
   have H := HA.out
   clear HA
   simp only [batonref32_Right.j0] at H
   by_cases c7 : x12_1 = true
   ·subst c7
    have H1 : (some false) = some r := by rw [if_pos rfl] at H; exact H
    clear H
    have H := H1
    clear H1
    obtain rfl := Option.some.inj H
    go_wp2
    go_ret
    exact ⟨by first | rfl | (simp [errW_none, errW_some] <;> rfl) | (simp [*, errW_none, errW_some] <;> rfl), by repeat (first | (with_reducible first | exact HB.out | apply below_alloc | apply pw_below_drewN | apply below_drew1 | refine below_set ?_ GE162.out) | exact HB.out)⟩
   ·replace c7 := Bool.eq_false_iff.mpr c7
    subst c7
    have H1 : (batonref32_Right.l0 kj1 0 a0_0 l0_1) = some r := by rw [if_neg (show ¬ (false = true) by decide)] at H; exact H
    clear H
    have H := H1
    clear H1
    have H' := A4_ H
    clear H
    go_wp2
    go_loopg [3] kj1 (fun kq v3 w' => ∃ (x3_2 : Int), v3 = .int .i64 x3_2 ∧ Aside0 (batonref32_Right.l0 kq x3_2 a0_0 l0_1 = some r) ∧ Aside0 (kq ≤ kj1) ∧ Aside0 (w'.heap[gb162]? = some (.cells #[.int .i64 a0_0, (.slice A0_1 l0_1.length c0_1)] 77 (0, 0))) ∧ Aside0 (Below w.heap.size w w'))
    case atStart => exact ⟨(0), q4_24, H', ⟨Nat.le_refl _⟩, ⟨by (with_reducible repeat (first | refine blk_drewN ?_ _ | refine blk_drew ?_ | refine blk_alloc ?_ _)); exact BK162.out⟩, ⟨by repeat (first | (with_reducible first | exact HB.out | apply below_alloc | apply pw_below_drewN | apply below_drew1 | refine below_set ?_ GE162.out) | exact HB.out)⟩⟩
    case round =>
     clear H'
     try clear p2
     try clear c3
     try clear c4
     try clear c4b0
     try clear c4b1
     try clear c4b2
     try clear c7
     try clear hcz5_0
     try clear hcz5_1
     try clear hcz6_0
     try clear hcz6_1
     try clear hfz5_0
     try clear hfz5_1
     try clear hfz6_0
     try clear hfz6_1
     try clear p2
     obtain ⟨x3_2, rfl, HA, HK2, BK162, HB⟩ := hrel
     cases gk with
     | zero => exact absurd HA.out (by simp [batonref32_Right.l0])
     | succ k2 =>
      have H := HA.out
      clear HA
      simp only [batonref32_Right.l0] at H
      by_cases c8 : x3_2 < (l0_1.length : Int)
      ·rw [if_pos c8] at H
       have c8b0 : decide (x3_2 < (l0_1.length : Int)) = true := decide_eq_true c8
       clear c8
       by_cases c9 : 0 ≤ x3_2
       ·rw [if_pos c9] at H
        have c9b0 : decide (0 ≤ x3_2) = true := decide_eq_true c9
        clear c9
        by_cases c10 : ((rd_T144 l0_1 x3_2).f0) ≤ a0_0
        ·rw [if_pos c10] at H
         have c10b0 : decide (((rd_T144 l0_1 x3_2).f0) ≤ a0_0) = true := decide_eq_true c10
         clear c10
         obtain rfl := Option.some.inj H
         have hcz11_0 : wr.cell? ⟨gb162, 0, none⟩ = some (.int .i64 a0_0) := bc4_ BK162 0
         have hcz11_1 : wr.cell? ⟨gb162, 1, none⟩ = some (.slice A0_1 l0_1.length c0_1) := bc4_ BK162 1
         have hfz11_0 := blk_frozen BK162.out 0
         have hfz11_1 := blk_frozen BK162.out 1
         have p163 : 0 ≤ (x3_2 : Int) := of_decide_eq_true q4_13
         have q163 : x3_2 < (l0_1.length : Int) := of_decide_eq_true q4_13
         obtain ⟨ad163, e163, hx163_0, hx163_1⟩ := at_T144 HR0_1.out x3_2 p163 q163
         cases e163
         replace hx163_0 := (HB.out.cell (World.block_lt_of_cell? w _ hx163_0)).trans hx163_0
         replace hx163_1 := (HB.out.cell (World.block_lt_of_cell? w _ hx163_1)).trans hx163_1
         replace p163 := eq_true p163
         replace q163 := eq_true q163
         go_wp2
         go_ret
         exact ⟨by first | rfl | (simp [errW_none, errW_some] <;> rfl) | (simp [*, errW_none, errW_some] <;> rfl), by repeat (first | (with_reducible first | exact HB.out | apply below_alloc | apply pw_below_drewN | apply below_drew1 | refine below_set ?_ GE162.out) | exact HB.out)⟩
        ·rw [if_neg c10] at H
         have c10b0 : decide (((rd_T144 l0_1 x3_2).f0) ≤ a0_0) = false := decide_eq_false c10
         clear c10
         by_cases c12 : ((rd_T144 l0_1 x3_2).f0) ≥ (wrap64 (a0_0 + 64))
         ·rw [if_pos c12] at H
          have c12b0 : decide ((wrap64 (a0_0 + 64)) ≤ ((rd_T144 l0_1 x3_2).f0)) = true := decide_eq_true c12
          clear c12
          obtain rfl := Option.some.inj H
          have hcz13_0 : wr.cell? ⟨gb162, 0, none⟩ = some (.int .i64 a0_0) := bc4_ BK162 0
          have hcz13_1 : wr.cell? ⟨gb162, 1, none⟩ = some (.slice A0_1 l0_1.length c0_1) := bc4_ BK162 1
          have hfz13_0 := blk_frozen BK162.out 0
          have hfz13_1 := blk_frozen BK162.out 1
          have p163 : 0 ≤ (x3_2 : Int) := of_decide_eq_true q4_13
          have q163 : x3_2 < (l0_1.length : Int) := of_decide_eq_true q4_13
          obtain ⟨ad163, e163, hx163_0, hx163_1⟩ := at_T144 HR0_1.out x3_2 p163 q163
          cases e163
          replace hx163_0 := (HB.out.cell (World.block_lt_of_cell? w _ hx163_0)).trans hx163_0
          replace hx163_1 := (HB.out.cell (World.block_lt_of_cell? w _ hx163_1)).trans hx163_1
          replace p163 := eq_true p163
          replace q163 := eq_true q163
          go_wp2
          go_ret
          exact ⟨by first | rfl | (simp [errW_none, errW_some] <;> rfl) | (simp [*, errW_none, errW_some] <;> rfl), by repeat (first | (with_reducible first | exact HB.out | apply below_alloc | apply pw_below_drewN | apply below_drew1 | refine below_set ?_ GE162.out) | exact HB.out)⟩
         ·rw [if_neg c12] at H
          have c12b0 : decide ((wrap64 (a0_0 + 64)) ≤ ((rd_T144 l0_1 x3_2).f0)) = false := decide_eq_false c12
          clear c12
          by_cases c14 : ((rd_T144 l0_1 x3_2).f0) ≥ 281474976710656
          ·rw [if_pos c14] at H
           have c14b0 : decide (281474976710656 ≤ ((rd_T144 l0_1 x3_2).f0)) = true := decide_eq_true c14
           clear c14
           obtain rfl := Option.some.inj H
           have hcz15_0 : wr.cell? ⟨gb162, 0, none⟩ = some (.int .i64 a0_0) := bc4_ BK162 0
           have hcz15_1 : wr.cell? ⟨gb162, 1, none⟩ = some (.slice A0_1 l0_1.length c0_1) := bc4_ BK162 1
           have hfz15_0 := blk_frozen BK162.out 0
           have hfz15_1 := blk_frozen BK162.out 1
           have p163 : 0 ≤ (x3_2 : Int) := of_decide_eq_true q4_13
           have q163 : x3_2 < (l0_1.length : Int) := of_decide_eq_true q4_13
           obtain ⟨ad163, e163, hx163_0, hx163_1⟩ := at_T144 HR0_1.out x3_2 p163 q163
           cases e163
           replace hx163_0 := (HB.out.cell (World.block_lt_of_cell? w _ hx163_0)).trans hx163_0
           replace hx163_1 := (HB.out.cell (World.block_lt_of_cell? w _ hx163_1)).trans hx163_1
           replace p163 := eq_true p163
           replace q163 := eq_true q163
           go_wp2
           go_ret
           exact ⟨by first | rfl | (simp [errW_none, errW_some] <;> rfl) | (simp [*, errW_none, errW_some] <;> rfl), by repeat (first | (with_reducible first | exact HB.out | apply below_alloc | apply pw_below_drewN | apply below_drew1 | refine below_set ?_ GE162.out) | exact HB.out)⟩
          ·rw [if_neg c14] at H
           have c14b0 : decide (281474976710656 ≤ ((rd_T144 l0_1 x3_2).f0)) = false := decide_eq_false c14
           clear c14
           by_cases c16 : x3_2 > 0
           ·rw [if_pos c16] at H
            have c16b0 : decide (0 < x3_2) = true := decide_eq_true c16
            clear c16
            obtain ⟨ji17, hji17⟩ : ∃ j_ : Int, (wrap64 (x3_2 - 1)) = j_ := ⟨_, rfl⟩
            replace H : (if 0 ≤ (ji17) then (if (ji17) < (l0_1.length : Int) then (if ((rd_T144 l0_1 x3_2).f0) ≤ ((rd_T144 l0_1 (ji17)).f0) then (some false) else (batonref32_Right.l0 k2 (wrap64 (x3_2 + 1)) a0_0 l0_1)) else (none)) else (none)) = some r := by first | (rw [hji17] at H; exact H) | (simp only [hji17] at H ⊢; exact H)
            have hji17w : (IntKind.i64.wrap (x3_2 - 1)) = ji17 := (i64_w _).trans hji17
            by_cases c18 : 0 ≤ (ji17)
            ·rw [if_pos c18] at H
             have c18b0 : decide (0 ≤ (ji17)) = true := decide_eq_true c18
             clear c18
             by_cases c19 : (ji17) < (l0_1.length : Int)
             ·rw [if_pos c19] at H
              have c19b0 : decide ((ji17) < (l0_1.length : Int)) = true := decide_eq_true c19
              clear c19
              by_cases c20 : ((rd_T144 l0_1 x3_2).f0) ≤ ((rd_T144 l0_1 (ji17)).f0)
              ·rw [if_pos c20] at H
               have c20b0 : decide (((rd_T144 l0_1 x3_2).f0) ≤ ((rd_T144 l0_1 (ji17)).f0)) = true := decide_eq_true c20
               clear c20
               obtain rfl := Option.some.inj H
               have hcz21_0 : wr.cell? ⟨gb162, 0, none⟩ = some (.int .i64 a0_0) := bc4_ BK162 0
               have hcz21_1 : wr.cell? ⟨gb162, 1, none⟩ = some (.slice A0_1 l0_1.length c0_1) := bc4_ BK162 1
               have hfz21_0 := blk_frozen BK162.out 0
               have hfz21_1 := blk_frozen BK162.out 1
               have p163 : 0 ≤ (x3_2 : Int) := of_decide_eq_true q4_13
               have q163 : x3_2 < (l0_1.length : Int) := of_decide_eq_true q4_13
               obtain ⟨ad163, e163, hx163_0, hx163_1⟩ := at_T144 HR0_1.out x3_2 p163 q163
               cases e163
               replace hx163_0 := (HB.out.cell (World.block_lt_of_cell? w _ hx163_0)).trans hx163_0
               replace hx163_1 := (HB.out.cell (World.block_lt_of_cell? w _ hx163_1)).trans hx163_1
               replace p163 := eq_true p163
               replace q163 := eq_true q163
               have p164 : 0 ≤ ((ji17) : Int) := of_decide_eq_true q4_13
               have q164 : (ji17) < (l0_1.length : Int) := of_decide_eq_true q4_13
               obtain ⟨ad164, e164, hx164_0, hx164_1⟩ := at_T144 HR0_1.out (ji17) p164 q164
               obtain rfl : ad163 = ad164 := (by injection e164)
               replace hx164_0 := (HB.out.cell (World.block_lt_of_cell? w _ hx164_0)).trans hx164_0
               replace hx164_1 := (HB.out.cell (World.block_lt_of_cell? w _ hx164_1)).trans hx164_1
               replace p164 := eq_true p164
               replace q164 := eq_true q164
               go_wp2
               go_ret
               exact ⟨by first | rfl | (simp [errW_none, errW_some] <;> rfl) | (simp only [← hji17]; first | rfl | (simp [errW_none, errW_some] <;> rfl)) | (simp [*, errW_none, errW_some] <;> rfl), by repeat (first | (with_reducible first | exact HB.out | apply below_alloc | apply pw_below_drewN | apply below_drew1 | refine below_set ?_ GE162.out) | exact HB.out)⟩
              ·rw [if_neg c20] at H
               have c20b0 : decide (((rd_T144 l0_1 x3_2).f0) ≤ ((rd_T144 l0_1 (ji17)).f0)) = false := decide_eq_false c20
               clear c20
               have H' := A4_ H
               clear H
               have hcz22_0 : wr.cell? ⟨gb162, 0, none⟩ = some (.int .i64 a0_0) := bc4_ BK162 0
               have hcz22_1 : wr.cell? ⟨gb162, 1, none⟩ = some (.slice A0_1 l0_1.length c0_1) := bc4_ BK162 1
               have hfz22_0 := blk_frozen BK162.out 0
               have hfz22_1 := blk_frozen BK162.out 1
               have p163 : 0 ≤ (x3_2 : Int) := of_decide_eq_true q4_13
               have q163 : x3_2 < (l0_1.length : Int) := of_decide_eq_true q4_13
               obtain ⟨ad163, e163, hx163_0, hx163_1⟩ := at_T144 HR0_1.out x3_2 p163 q163
               cases e163
               replace hx163_0 := (HB.out.cell (World.block_lt_of_cell? w _ hx163_0)).trans hx163_0
               replace hx163_1 := (HB.out.cell (World.block_lt_of_cell? w _ hx163_1)).trans hx163_1
               replace p163 := eq_true p163
               replace q163 := eq_true q163
               have p164 : 0 ≤ ((ji17) : Int) := of_decide_eq_true q4_13
               have q164 : (ji17) < (l0_1.length : Int) := of_decide_eq_true q4_13
               obtain ⟨ad164, e164, hx164_0, hx164_1⟩ := at_T144 HR0_1.out (ji17) p164 q164
               obtain rfl : ad163 = ad164 := (by injection e164)
               replace hx164_0 := (HB.out.cell (World.block_lt_of_cell? w _ hx164_0)).trans hx164_0
               replace hx164_1 := (HB.out.cell (World.block_lt_of_cell? w _ hx164_1)).trans hx164_1
               replace p164 := eq_true p164
               replace q164 := eq_true q164
               go_wp2
               go_roundg k2
               case measure => have := HJ1.out; have := HK2.out; omega
               case rel => exact ⟨(wrap64 (x3_2 + 1)), q4_24, H', ⟨by have := HJ1.out; have := HK2.out; omega⟩, ⟨by (with_reducible repeat (first | refine blk_drewN ?_ _ | refine blk_drew ?_ | refine blk_alloc ?_ _)); exact BK162.out⟩, ⟨by repeat (first | (with_reducible first | exact HB.out | apply below_alloc | apply pw_below_drewN | apply below_drew1 | refine below_set ?_ GE162.out) | exact HB.out)⟩⟩
             ·rw [if_neg c19] at H
              exact absurd H (by simp)
            ·rw [if_neg c18] at H
             exact absurd H (by simp)
           ·rw [if_neg c16] at H
            have c16b0 : decide (0 < x3_2) = false := decide_eq_false c16
            clear c16
            have H' := A4_ H
            clear H
            have hcz23_0 : wr.cell? ⟨gb162, 0, none⟩ = some (.int .i64 a0_0) := bc4_ BK162 0
            have hcz23_1 : wr.cell? ⟨gb162, 1, none⟩ = some (.slice A0_1 l0_1.length c0_1) := bc4_ BK162 1
            have hfz23_0 := blk_frozen BK162.out 0
            have hfz23_1 := blk_frozen BK162.out 1
            have p163 : 0 ≤ (x3_2 : Int) := of_decide_eq_true q4_13
            have q163 : x3_2 < (l0_1.length : Int) := of_decide_eq_true q4_13
            obtain ⟨ad163, e163, hx163_0, hx163_1⟩ := at_T144 HR0_1.out x3_2 p163 q163
            cases e163
            replace hx163_0 := (HB.out.cell (World.block_lt_of_cell? w _ hx163_0)).trans hx163_0
            replace hx163_1 := (HB.out.cell (World.block_lt_of_cell? w _ hx163_1)).trans hx163_1
            replace p163 := eq_true p163
            replace q163 := eq_true q163
            go_wp2
            go_roundg k2
            case measure => have := HJ1.out; have := HK2.out; omega
            case rel => exact ⟨(wrap64 (x3_2 + 1)), q4_24, H', ⟨by have := HJ1.out; have := HK2.out; omega⟩, ⟨by (with_reducible repeat (first | refine blk_drewN ?_ _ | refine blk_drew ?_ | refine blk_alloc ?_ _)); exact BK162.out⟩, ⟨by repeat (first | (with_reducible first | exact HB.out | apply below_alloc | apply pw_below_drewN | apply below_drew1 | refine below_set ?_ GE162.out) | exact HB.out)⟩⟩
       ·rw [if_neg c9] at H
        exact absurd H (by simp)
      ·rw [if_neg c8] at H
       have c8b0 : decide (x3_2 < (l0_1.length : Int)) = false := decide_eq_false c8
       clear c8
       obtain rfl := Option.some.inj H
       have hcz24_0 : wr.cell? ⟨gb162, 0, none⟩ = some (.int .i64 a0_0) := bc4_ BK162 0
       have hcz24_1 : wr.cell? ⟨gb162, 1, none⟩ = some (.slice A0_1 l0_1.length c0_1) := bc4_ BK162 1
       have hfz24_0 := blk_frozen BK162.out 0
       have hfz24_1 := blk_frozen BK162.out 1
       go_wp2
       go_ret
       exact ⟨by first | rfl | (simp [errW_none, errW_some] <;> rfl) | (simp [*, errW_none, errW_some] <;> rfl), by repeat (first | (with_reducible first | exact HB.out | apply below_alloc | apply pw_below_drewN | apply below_drew1 | refine below_set ?_ GE162.out) | exact HB.out)⟩

end Go.Proofs.Ytdbfclfglpbpmaa.PF32T
