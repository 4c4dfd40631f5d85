/- By a program of this session (wip/tool/pp.py): plain Lean functions of the Go functions that this family of laws uses, the walks that the Go code comes to their answers, and the row of the law. No condition beside those that the row itself gives. -/
import Derived.Test.YtaiiegbhbadciaaPF22x0
import Derived.Test.YtaiiegbhbadciaaPF22x2
import Derived.Test.YtaiiegbhbadciaaPF22x3
import Derived.Test.YtaiiegbhbadciaaPF22x4
namespace Go.Proofs.Ytaiiegbhbadciaa.PF22
open Go.RowKit Go.Proofs.YtaiiegbhbadciaaW.Hand Go.Proofs.YtaiiegbhbadciaaW.PrintWords Go.Proofs.YtaiiegbhbadciaaW.PrintLast Go.Proofs.YtaiiegbhbadciaaW.PrintMore
attribute [local go_sem] max2_int min2_int max_two min_two max_three min_three max_four min_four   -- for this text's walks alone
set_option linter.unusedVariables false
set_option linter.unusedSimpArgs false

/-! ### record_Marked: function 33 -/
def record_Marked.f (l0 : List Int) (a1 : Bool) : Option (List Int) := (slices_Clone_byte_byte.f l0).bind fun t181 => (if (t181.length : Int) > 0 then (if 0 ≤ (wrap64 ((t181.length : Int) - 1)) then (if (wrap64 ((t181.length : Int) - 1)) < (t181.length : Int) then ((some (t181.set ((wrap64 ((t181.length : Int) - 1)) : Int).toNat 0 : List Int)).bind fun y184 => (if a1 = true then (some (y184.set ((wrap64 ((t181.length : Int) - 1)) : Int).toNat 1)) else (some y184))) else (none)) else (none)) else (some t181))
theorem q5_1 {p : Prop} (h : p := by repeat (first | (with_reducible first | exact HB.out | apply below_alloc | apply pw_below_drewN | apply below_drew1) | exact HB.out)) : p := h
theorem q5_2 {p : Prop} (h : p := by repeat (first | (with_reducible first | exact HB.out | apply below_alloc | apply pw_below_drewN | apply below_drew1 | refine below_set ?_ GE202.out) | exact HB.out)) : p := h
theorem q5_3 {p : Prop} (h : p := by (with_reducible repeat (first | apply Kd.R_alloc | apply Kd.R_drewN | apply Kd.R_drew)); exact HO188.out) : p := h
theorem q5_4 {p : Prop} (h : p := by (with_reducible repeat (first | apply Kd.R_alloc | apply Kd.R_drewN | apply Kd.R_drew)); exact HO191.out) : p := h
theorem q5_5 {p : Prop} (h : p := by (try simp only [List.map_toArray, List.map_cons, List.map_nil]); first | done | rfl | (simp only [List.length_drop, List.length_take]; rfl)) : p := h
theorem q5_6 {p : Prop} (h : p := by (with_reducible repeat (first | apply Kd.R_alloc | apply Kd.R_drewN | apply Kd.R_drew)); exact HO195.out) : p := h
theorem q5_7 {p : Prop} (h : p := by (with_reducible repeat (first | refine blk_drewN ?_ _ | refine blk_drew ?_ | refine blk_alloc ?_ _)); refine blk_put (cs := #[.int .i64 t196, .int .i64 t197, .slice none 0 0]) ?_ 2 _ rfl; (with_reducible repeat (first | refine blk_drewN ?_ _ | refine blk_drew ?_ | refine blk_alloc ?_ _)); refine blk_put (cs := #[.int .i64 t196, .int .i64 0, .slice none 0 0]) ?_ 1 _ rfl; (with_reducible repeat (first | refine blk_drewN ?_ _ | refine blk_drew ?_ | refine blk_alloc ?_ _)); refine blk_put (cs := #[.int .i64 0, .int .i64 0, .slice none 0 0]) ?_ 0 _ rfl; (with_reducible repeat (first | refine blk_drewN ?_ _ | refine blk_drew ?_ | refine blk_alloc ?_ _)); exact BK202.out) : p := h
theorem q5_8 {p : Prop} (h : p := by (with_reducible repeat (first | refine blk_drewN ?_ _ | refine blk_drew ?_ | refine blk_alloc ?_ _)); exact BK202.out) : p := h
theorem q5_9 {p : Prop} (h : p := by (with_reducible repeat (first | apply Kd.R_alloc | apply Kd.R_drewN | apply Kd.R_drew)); exact HO200.out) : p := h
theorem q5_10 {p : Prop} (h : p := by (with_reducible repeat (first | apply Kd.R_alloc | apply Kd.R_drewN | apply Kd.R_drew)); exact HO205.out) : p := h
theorem q5_11 {p : Prop} (h : p := by first | rfl | (simp; done) | (simp [*]; done)) : p := h
theorem q5_12 {p : Prop} (h : p := by first | (with_reducible assumption) | assumption) : p := h
theorem q5_13 {p : Prop} (h : p := by (with_reducible repeat (first | apply Kd.R_alloc | apply Kd.R_drewN | apply Kd.R_drew)); exact HO210.out) : p := h
theorem q5_14 {p : Prop} (h : p := by decide) : p := h
theorem q5_15 {p : Prop} (h : p := by (with_reducible repeat (first | apply Kd.R_alloc | apply Kd.R_drewN | apply Kd.R_drew)); exact (Kd.R_mono (Kd.R_far (p := ⟨gb202, 2, none⟩) (Kd.R_far (p := ⟨gb202, 1, none⟩) (Kd.R_far (p := ⟨gb202, 0, none⟩) (Kd.R_types HO200.out BK202.out q5_14) (fun _ hk => hk.2) (.int .i64 t196)) (fun _ hk => hk.2) (.int .i64 t197)) (fun _ hk => hk.2) (.slice Ao140 t198.length co140)) (fun _ h_ => h_.1))) : p := h
theorem q5_16 {p : Prop} (h : p := by (with_reducible repeat (first | apply Kd.R_alloc | apply Kd.R_drewN | apply Kd.R_drew)); exact (Kd.R_mono (Kd.R_far (p := ⟨gb202, 2, none⟩) (Kd.R_far (p := ⟨gb202, 1, none⟩) (Kd.R_far (p := ⟨gb202, 0, none⟩) (Kd.R_types HO200.out BK202.out q5_14) (fun _ hk => hk.2) (.int .i64 t196)) (fun _ hk => hk.2) (.int .i64 t197)) (fun _ hk => hk.2) (.slice Ao121 t198.length co121)) (fun _ h_ => h_.1))) : p := h
theorem q5_17 {p : Prop} (h : p := by (with_reducible repeat (first | apply Kd.R_alloc | apply Kd.R_drewN | apply Kd.R_drew)); exact (Kd.R_mono (Kd.R_far (p := ⟨gb202, 2, none⟩) (Kd.R_far (p := ⟨gb202, 1, none⟩) (Kd.R_far (p := ⟨gb202, 0, none⟩) (Kd.R_types HO200.out BK202.out q5_14) (fun _ hk => hk.2) (.int .i64 t196)) (fun _ hk => hk.2) (.int .i64 t197)) (fun _ hk => hk.2) (.slice Ao102 t198.length co102)) (fun _ h_ => h_.1))) : p := h
theorem q5_18 {p : Prop} (h : p := by (with_reducible repeat (first | apply Kd.R_alloc | apply Kd.R_drewN | apply Kd.R_drew)); exact (Kd.R_mono (Kd.R_far (p := ⟨gb202, 2, none⟩) (Kd.R_far (p := ⟨gb202, 1, none⟩) (Kd.R_far (p := ⟨gb202, 0, none⟩) (Kd.R_types HO195.out BK202.out q5_14) (fun _ hk => hk.2) (.int .i64 t196)) (fun _ hk => hk.2) (.int .i64 t197)) (fun _ hk => hk.2) (.slice Ao140 t198.length co140)) (fun _ h_ => h_.1))) : p := h
theorem q5_19 {p : Prop} (h : p := by (with_reducible repeat (first | apply Kd.R_alloc | apply Kd.R_drewN | apply Kd.R_drew)); exact (Kd.R_mono (Kd.R_far (p := ⟨gb202, 2, none⟩) (Kd.R_far (p := ⟨gb202, 1, none⟩) (Kd.R_far (p := ⟨gb202, 0, none⟩) (Kd.R_types HO195.out BK202.out q5_14) (fun _ hk => hk.2) (.int .i64 t196)) (fun _ hk => hk.2) (.int .i64 t197)) (fun _ hk => hk.2) (.slice Ao121 t198.length co121)) (fun _ h_ => h_.1))) : p := h
theorem q5_20 {p : Prop} (h : p := by (with_reducible repeat (first | apply Kd.R_alloc | apply Kd.R_drewN | apply Kd.R_drew)); exact (Kd.R_mono (Kd.R_far (p := ⟨gb202, 2, none⟩) (Kd.R_far (p := ⟨gb202, 1, none⟩) (Kd.R_far (p := ⟨gb202, 0, none⟩) (Kd.R_types HO195.out BK202.out q5_14) (fun _ hk => hk.2) (.int .i64 t196)) (fun _ hk => hk.2) (.int .i64 t197)) (fun _ hk => hk.2) (.slice Ao102 t198.length co102)) (fun _ h_ => h_.1))) : p := h
theorem q5_21 {p : Prop} (h : p := by (with_reducible repeat (first | apply Kd.R_alloc | apply Kd.R_drewN | apply Kd.R_drew)); exact (Kd.R_mono (Kd.R_far (p := ⟨gb202, 2, none⟩) (Kd.R_far (p := ⟨gb202, 1, none⟩) (Kd.R_far (p := ⟨gb202, 0, none⟩) (Kd.R_types HO191.out BK202.out q5_14) (fun _ hk => hk.2) (.int .i64 t196)) (fun _ hk => hk.2) (.int .i64 t197)) (fun _ hk => hk.2) (.slice Ao140 t198.length co140)) (fun _ h_ => h_.1))) : p := h
theorem q5_22 {p : Prop} (h : p := by (with_reducible repeat (first | apply Kd.R_alloc | apply Kd.R_drewN | apply Kd.R_drew)); exact (Kd.R_mono (Kd.R_far (p := ⟨gb202, 2, none⟩) (Kd.R_far (p := ⟨gb202, 1, none⟩) (Kd.R_far (p := ⟨gb202, 0, none⟩) (Kd.R_types HO191.out BK202.out q5_14) (fun _ hk => hk.2) (.int .i64 t196)) (fun _ hk => hk.2) (.int .i64 t197)) (fun _ hk => hk.2) (.slice Ao121 t198.length co121)) (fun _ h_ => h_.1))) : p := h
theorem q5_23 {p : Prop} (h : p := by (with_reducible repeat (first | apply Kd.R_alloc | apply Kd.R_drewN | apply Kd.R_drew)); exact (Kd.R_mono (Kd.R_far (p := ⟨gb202, 2, none⟩) (Kd.R_far (p := ⟨gb202, 1, none⟩) (Kd.R_far (p := ⟨gb202, 0, none⟩) (Kd.R_types HO191.out BK202.out q5_14) (fun _ hk => hk.2) (.int .i64 t196)) (fun _ hk => hk.2) (.int .i64 t197)) (fun _ hk => hk.2) (.slice Ao102 t198.length co102)) (fun _ h_ => h_.1))) : p := h
theorem q5_24 {p : Prop} (h : p := by (with_reducible repeat (first | apply Kd.R_alloc | apply Kd.R_drewN | apply Kd.R_drew)); exact (Kd.R_mono (Kd.R_far (p := ⟨gb202, 2, none⟩) (Kd.R_far (p := ⟨gb202, 1, none⟩) (Kd.R_far (p := ⟨gb202, 0, none⟩) (Kd.R_types HO188.out BK202.out q5_14) (fun _ hk => hk.2) (.int .i64 t196)) (fun _ hk => hk.2) (.int .i64 t197)) (fun _ hk => hk.2) (.slice Ao140 t198.length co140)) (fun _ h_ => h_.1))) : p := h
theorem q5_25 {p : Prop} (h : p := by (with_reducible repeat (first | apply Kd.R_alloc | apply Kd.R_drewN | apply Kd.R_drew)); exact (Kd.R_mono (Kd.R_far (p := ⟨gb202, 2, none⟩) (Kd.R_far (p := ⟨gb202, 1, none⟩) (Kd.R_far (p := ⟨gb202, 0, none⟩) (Kd.R_types HO188.out BK202.out q5_14) (fun _ hk => hk.2) (.int .i64 t196)) (fun _ hk => hk.2) (.int .i64 t197)) (fun _ hk => hk.2) (.slice Ao121 t198.length co121)) (fun _ h_ => h_.1))) : p := h
theorem q5_26 {p : Prop} (h : p := by (with_reducible repeat (first | apply Kd.R_alloc | apply Kd.R_drewN | apply Kd.R_drew)); exact (Kd.R_mono (Kd.R_far (p := ⟨gb202, 2, none⟩) (Kd.R_far (p := ⟨gb202, 1, none⟩) (Kd.R_far (p := ⟨gb202, 0, none⟩) (Kd.R_types HO188.out BK202.out q5_14) (fun _ hk => hk.2) (.int .i64 t196)) (fun _ hk => hk.2) (.int .i64 t197)) (fun _ hk => hk.2) (.slice Ao102 t198.length co102)) (fun _ h_ => h_.1))) : p := h
theorem q5_27 {p : Prop} (h : p := by (with_reducible repeat (first | apply Kd.R_alloc | apply Kd.R_drewN | apply Kd.R_drew)); exact (Kd.R_mono (Kd.R_far (p := ⟨gb202, 2, none⟩) (Kd.R_far (p := ⟨gb202, 1, none⟩) (Kd.R_far (p := ⟨gb202, 0, none⟩) (Kd.R_types HO200.out BK202.out q5_14) (fun _ hk => hk.2) (.int .i64 t196)) (fun _ hk => hk.2) (.int .i64 t197)) (fun _ hk => hk.2) (.slice Ao82 t198.length co82)) (fun _ h_ => h_.1))) : p := h
theorem q5_28 {p : Prop} (h : p := by (with_reducible repeat (first | apply Kd.R_alloc | apply Kd.R_drewN | apply Kd.R_drew)); exact (Kd.R_mono (Kd.R_far (p := ⟨gb202, 2, none⟩) (Kd.R_far (p := ⟨gb202, 1, none⟩) (Kd.R_far (p := ⟨gb202, 0, none⟩) (Kd.R_types HO200.out BK202.out q5_14) (fun _ hk => hk.2) (.int .i64 t196)) (fun _ hk => hk.2) (.int .i64 t197)) (fun _ hk => hk.2) (.slice Ao62 t198.length co62)) (fun _ h_ => h_.1))) : p := h
theorem q5_29 {p : Prop} (h : p := by (with_reducible repeat (first | apply Kd.R_alloc | apply Kd.R_drewN | apply Kd.R_drew)); exact (Kd.R_mono (Kd.R_far (p := ⟨gb202, 2, none⟩) (Kd.R_far (p := ⟨gb202, 1, none⟩) (Kd.R_far (p := ⟨gb202, 0, none⟩) (Kd.R_types HO200.out BK202.out q5_14) (fun _ hk => hk.2) (.int .i64 t196)) (fun _ hk => hk.2) (.int .i64 t197)) (fun _ hk => hk.2) (.slice Ao42 t198.length co42)) (fun _ h_ => h_.1))) : p := h
theorem q5_30 {p : Prop} (h : p := by (with_reducible repeat (first | apply Kd.R_alloc | apply Kd.R_drewN | apply Kd.R_drew)); exact (Kd.R_mono (Kd.R_far (p := ⟨gb202, 2, none⟩) (Kd.R_far (p := ⟨gb202, 1, none⟩) (Kd.R_far (p := ⟨gb202, 0, none⟩) (Kd.R_types HO200.out BK202.out q5_14) (fun _ hk => hk.2) (.int .i64 t196)) (fun _ hk => hk.2) (.int .i64 t197)) (fun _ hk => hk.2) (.slice Ao22 t198.length co22)) (fun _ h_ => h_.1))) : p := h
theorem q5_31 {p : Prop} (h : p := by (with_reducible repeat (first | apply Kd.R_alloc | apply Kd.R_drewN | apply Kd.R_drew)); exact (Kd.R_mono (Kd.R_far (p := ⟨gb202, 2, none⟩) (Kd.R_far (p := ⟨gb202, 1, none⟩) (Kd.R_far (p := ⟨gb202, 0, none⟩) (Kd.R_types HO195.out BK202.out q5_14) (fun _ hk => hk.2) (.int .i64 t196)) (fun _ hk => hk.2) (.int .i64 t197)) (fun _ hk => hk.2) (.slice Ao82 t198.length co82)) (fun _ h_ => h_.1))) : p := h
theorem q5_32 {p : Prop} (h : p := by (with_reducible repeat (first | apply Kd.R_alloc | apply Kd.R_drewN | apply Kd.R_drew)); exact (Kd.R_mono (Kd.R_far (p := ⟨gb202, 2, none⟩) (Kd.R_far (p := ⟨gb202, 1, none⟩) (Kd.R_far (p := ⟨gb202, 0, none⟩) (Kd.R_types HO195.out BK202.out q5_14) (fun _ hk => hk.2) (.int .i64 t196)) (fun _ hk => hk.2) (.int .i64 t197)) (fun _ hk => hk.2) (.slice Ao62 t198.length co62)) (fun _ h_ => h_.1))) : p := h
theorem q5_33 {p : Prop} (h : p := by (with_reducible repeat (first | apply Kd.R_alloc | apply Kd.R_drewN | apply Kd.R_drew)); exact (Kd.R_mono (Kd.R_far (p := ⟨gb202, 2, none⟩) (Kd.R_far (p := ⟨gb202, 1, none⟩) (Kd.R_far (p := ⟨gb202, 0, none⟩) (Kd.R_types HO195.out BK202.out q5_14) (fun _ hk => hk.2) (.int .i64 t196)) (fun _ hk => hk.2) (.int .i64 t197)) (fun _ hk => hk.2) (.slice Ao42 t198.length co42)) (fun _ h_ => h_.1))) : p := h
theorem q5_34 {p : Prop} (h : p := by (with_reducible repeat (first | apply Kd.R_alloc | apply Kd.R_drewN | apply Kd.R_drew)); exact (Kd.R_mono (Kd.R_far (p := ⟨gb202, 2, none⟩) (Kd.R_far (p := ⟨gb202, 1, none⟩) (Kd.R_far (p := ⟨gb202, 0, none⟩) (Kd.R_types HO195.out BK202.out q5_14) (fun _ hk => hk.2) (.int .i64 t196)) (fun _ hk => hk.2) (.int .i64 t197)) (fun _ hk => hk.2) (.slice Ao22 t198.length co22)) (fun _ h_ => h_.1))) : p := h
theorem q5_35 {p : Prop} (h : p := by (with_reducible repeat (first | apply Kd.R_alloc | apply Kd.R_drewN | apply Kd.R_drew)); exact (Kd.R_mono (Kd.R_far (p := ⟨gb202, 2, none⟩) (Kd.R_far (p := ⟨gb202, 1, none⟩) (Kd.R_far (p := ⟨gb202, 0, none⟩) (Kd.R_types HO191.out BK202.out q5_14) (fun _ hk => hk.2) (.int .i64 t196)) (fun _ hk => hk.2) (.int .i64 t197)) (fun _ hk => hk.2) (.slice Ao82 t198.length co82)) (fun _ h_ => h_.1))) : p := h
theorem q5_36 {p : Prop} (h : p := by (with_reducible repeat (first | apply Kd.R_alloc | apply Kd.R_drewN | apply Kd.R_drew)); exact (Kd.R_mono (Kd.R_far (p := ⟨gb202, 2, none⟩) (Kd.R_far (p := ⟨gb202, 1, none⟩) (Kd.R_far (p := ⟨gb202, 0, none⟩) (Kd.R_types HO191.out BK202.out q5_14) (fun _ hk => hk.2) (.int .i64 t196)) (fun _ hk => hk.2) (.int .i64 t197)) (fun _ hk => hk.2) (.slice Ao62 t198.length co62)) (fun _ h_ => h_.1))) : p := h
theorem q5_37 {p : Prop} (h : p := by (with_reducible repeat (first | apply Kd.R_alloc | apply Kd.R_drewN | apply Kd.R_drew)); exact (Kd.R_mono (Kd.R_far (p := ⟨gb202, 2, none⟩) (Kd.R_far (p := ⟨gb202, 1, none⟩) (Kd.R_far (p := ⟨gb202, 0, none⟩) (Kd.R_types HO191.out BK202.out q5_14) (fun _ hk => hk.2) (.int .i64 t196)) (fun _ hk => hk.2) (.int .i64 t197)) (fun _ hk => hk.2) (.slice Ao42 t198.length co42)) (fun _ h_ => h_.1))) : p := h
theorem q5_38 {p : Prop} (h : p := by (with_reducible repeat (first | apply Kd.R_alloc | apply Kd.R_drewN | apply Kd.R_drew)); exact (Kd.R_mono (Kd.R_far (p := ⟨gb202, 2, none⟩) (Kd.R_far (p := ⟨gb202, 1, none⟩) (Kd.R_far (p := ⟨gb202, 0, none⟩) (Kd.R_types HO191.out BK202.out q5_14) (fun _ hk => hk.2) (.int .i64 t196)) (fun _ hk => hk.2) (.int .i64 t197)) (fun _ hk => hk.2) (.slice Ao22 t198.length co22)) (fun _ h_ => h_.1))) : p := h
theorem q5_39 {p : Prop} (h : p := by (with_reducible repeat (first | apply Kd.R_alloc | apply Kd.R_drewN | apply Kd.R_drew)); exact (Kd.R_mono (Kd.R_far (p := ⟨gb202, 2, none⟩) (Kd.R_far (p := ⟨gb202, 1, none⟩) (Kd.R_far (p := ⟨gb202, 0, none⟩) (Kd.R_types HO188.out BK202.out q5_14) (fun _ hk => hk.2) (.int .i64 t196)) (fun _ hk => hk.2) (.int .i64 t197)) (fun _ hk => hk.2) (.slice Ao82 t198.length co82)) (fun _ h_ => h_.1))) : p := h
theorem q5_40 {p : Prop} (h : p := by (with_reducible repeat (first | apply Kd.R_alloc | apply Kd.R_drewN | apply Kd.R_drew)); exact (Kd.R_mono (Kd.R_far (p := ⟨gb202, 2, none⟩) (Kd.R_far (p := ⟨gb202, 1, none⟩) (Kd.R_far (p := ⟨gb202, 0, none⟩) (Kd.R_types HO188.out BK202.out q5_14) (fun _ hk => hk.2) (.int .i64 t196)) (fun _ hk => hk.2) (.int .i64 t197)) (fun _ hk => hk.2) (.slice Ao62 t198.length co62)) (fun _ h_ => h_.1))) : p := h
theorem q5_41 {p : Prop} (h : p := by (with_reducible repeat (first | apply Kd.R_alloc | apply Kd.R_drewN | apply Kd.R_drew)); exact (Kd.R_mono (Kd.R_far (p := ⟨gb202, 2, none⟩) (Kd.R_far (p := ⟨gb202, 1, none⟩) (Kd.R_far (p := ⟨gb202, 0, none⟩) (Kd.R_types HO188.out BK202.out q5_14) (fun _ hk => hk.2) (.int .i64 t196)) (fun _ hk => hk.2) (.int .i64 t197)) (fun _ hk => hk.2) (.slice Ao42 t198.length co42)) (fun _ h_ => h_.1))) : p := h
theorem q5_42 {p : Prop} (h : p := by (with_reducible repeat (first | apply Kd.R_alloc | apply Kd.R_drewN | apply Kd.R_drew)); exact (Kd.R_mono (Kd.R_far (p := ⟨gb202, 2, none⟩) (Kd.R_far (p := ⟨gb202, 1, none⟩) (Kd.R_far (p := ⟨gb202, 0, none⟩) (Kd.R_types HO188.out BK202.out q5_14) (fun _ hk => hk.2) (.int .i64 t196)) (fun _ hk => hk.2) (.int .i64 t197)) (fun _ hk => hk.2) (.slice Ao22 t198.length co22)) (fun _ h_ => h_.1))) : p := h
theorem q5_43 {p : Prop} (h : p := by kernel_rfl) : p := h
theorem q5_44 {p : Prop} (h : p := by (with_reducible repeat (first | apply Kd.R_alloc | apply Kd.R_drewN | apply Kd.R_drew)); exact HO_3.out) : p := h
theorem q5_45 {p : Prop} (h : p := by omega) : p := h
set_option maxHeartbeats 8000000 in
set_option maxRecDepth 100000 in
theorem record_Marked.calls (A0 : Option Addr) (c0 : Nat) (l0 : List Int) (a1 : Bool) (r : List Int) (w : World) (hr0 : Kd.C (Kd.int .u8) w A0 l0.length l0) (hc0 : l0.length ≤ c0) (h : record_Marked.f l0 a1 = some r) :
    Calls Try.prog 33 #[.slice A0 l0.length c0, .bool a1] w fun e w' => ∃ v0_ : Value, e = .returned (v0_) ∧ Kd.R (Kd.int .u8) 5 w' w.heap.size (fun _ => True) v0_ r ∧ Below w.heap.size w w' := by
  have HR0 := Aside0.mk hr0
  have HC0 := Aside0.mk hc0
  clear hr0 hc0
  have HB := Aside0.mk (Below.refl w.heap.size w)
  have H : ((slices_Clone_byte_byte.f l0).bind fun t181 => (if (t181.length : Int) > 0 then (if 0 ≤ (wrap64 ((t181.length : Int) - 1)) then (if (wrap64 ((t181.length : Int) - 1)) < (t181.length : Int) then ((some (t181.set ((wrap64 ((t181.length : Int) - 1)) : Int).toNat 0 : List Int)).bind fun y184 => (if a1 = true then (some (y184.set ((wrap64 ((t181.length : Int) - 1)) : Int).toNat 1)) else (some y184))) else (none)) else (none)) else (some t181))) = some r := h
  clear h
  replace H := Option.bind_eq_some_iff.mp H
  obtain ⟨t181, A30, H⟩ := H
  replace H : (if (t181.length : Int) > 0 then (if 0 ≤ (wrap64 ((t181.length : Int) - 1)) then (if (wrap64 ((t181.length : Int) - 1)) < (t181.length : Int) then ((some (t181.set ((wrap64 ((t181.length : Int) - 1)) : Int).toNat 0 : List Int)).bind fun y184 => (if a1 = true then (some (y184.set ((wrap64 ((t181.length : Int) - 1)) : Int).toNat 1)) else (some y184))) else (none)) else (none)) else (some t181)) = some r := H
  have A3 := Aside0.mk A30
  clear A30
  by_cases c4 : (t181.length : Int) > 0
  · rw [if_pos c4] at H
    have c4b0 : decide (0 < (t181.length : Int)) = true := decide_eq_true c4
    have c4b1 : decide (0 < t181.length) = true := decide_eq_true q5_45
    clear c4
    obtain ⟨ji5, hji5⟩ : ∃ j_ : Int, (wrap64 ((t181.length : Int) - 1)) = j_ := ⟨_, rfl⟩
    replace H : (if 0 ≤ (ji5) then (if (ji5) < (t181.length : Int) then ((some (t181.set ((ji5) : Int).toNat 0 : List Int)).bind fun y184 => (if a1 = true then (some (y184.set ((ji5) : Int).toNat 1)) else (some y184))) else (none)) else (none)) = some r := by first | (rw [hji5] at H; exact H) | (simp only [hji5] at H ⊢; exact H)
    (try rw [hji5] at A3)
    have hji5w : (IntKind.i64.wrap ((t181.length : Int) - 1)) = ji5 := (i64_w _).trans hji5
    by_cases c6 : 0 ≤ (ji5)
    · rw [if_pos c6] at H
      have c6b0 : decide (0 ≤ (ji5)) = true := decide_eq_true c6
      clear c6
      by_cases c7 : (ji5) < (t181.length : Int)
      · rw [if_pos c7] at H
        have c7b0 : decide ((ji5) < (t181.length : Int)) = true := decide_eq_true c7
        clear c7
        obtain ⟨y184, hy184⟩ : ∃ y_ : List Int, y_ = (t181.set ((ji5) : Int).toNat 0) := ⟨_, rfl⟩
        replace H : (if a1 = true then (some (y184.set ((ji5) : Int).toNat 1)) else (some y184)) = some r := by first | (rw [hy184]; with_reducible exact H) | (have H2_ := (Option.bind_some _ _).symm.trans H; rw [hy184]; with_reducible exact H2_) | (have H2_ := (Option.bind_some _ _).symm.trans H; with_reducible exact H2_) | with_reducible exact H | (rw [hy184]; exact H) | exact H
        have Ny184 := Aside0.mk hy184
        clear hy184
        by_cases c9 : a1 = true
        · subst c9
          have H1 : (some (y184.set ((ji5) : Int).toNat 1)) = some r := by rw [if_pos rfl] at H; exact H
          clear H
          have H := H1
          clear H1
          obtain ⟨y185, hy185⟩ : ∃ y_ : List Int, y_ = (y184.set ((ji5) : Int).toNat 1) := ⟨_, rfl⟩
          replace H : (some y185) = some r := by first | (rw [hy185]; with_reducible exact H) | (have H2_ := (Option.bind_some _ _).symm.trans H; rw [hy185]; with_reducible exact H2_) | (have H2_ := (Option.bind_some _ _).symm.trans H; with_reducible exact H2_) | with_reducible exact H | (rw [hy185]; exact H) | exact H
          have Ny185 := Aside0.mk hy185
          clear hy185
          obtain rfl := Option.some.inj H
          go_enter Try.func33, Try.ntmps33
          go_wp2_with (first | ((with_reducible refine gate_callee (f := 45) rfl ?_); refine goesL_ (some 8) rfl rfl Try.func45 q5_43 rfl #[.slice A0 l0.length c0] rfl q5_5 ?_; (with_reducible refine (slices_Clone_byte_byte.calls _ _ l0 t181 _ ?side1 ?side2 A3.out).mono ?_); (case side1 => repeat (first | exact HR0.out | (with_reducible refine Kd.C_alloc ?_ _) | (with_reducible refine Kd.C_drewN ?_ _) | (with_reducible refine Kd.C_drew ?_))); (case side2 => exact HC0.out); rintro e w11 ⟨v182, rfl, ho0, hb⟩; refine ⟨_, rfl, ?_⟩; have n0_ := Aside0.mk (Kd.R_lower ho0 (below_size q5_1)); have n1_ := Aside0.mk (below_step q5_1 hb); clear HB; have HO183 := n0_; have HB := n1_; clear n0_ n1_; (try clear hb); (try clear hb2); (try clear hk); (try clear hi); (try clear ho0); obtain ⟨Ao12, co12, eo12⟩ := Kd.R_slice HO183.out; subst eo12; have p8 : 0 ≤ ((ji5) : Int) := of_decide_eq_true q5_12; have q8 : ((ji5) : Int) < ((t181.length : Int) : Int) := of_decide_eq_true q5_12; obtain ⟨go8, co8, eo8, gb8, gl8, cl8, HG8⟩ := Kd.R_form HO183.out q5_45; (first | cases eo8 | (injection eo8 with ea_ en_ ec_; (first | subst ea_ | (injection ea_ with ea_; subst ea_)); subst ec_; clear en_)); have GB8 := Aside0.mk gb8; have GG8 := Aside0.mk HG8; clear gb8 gl8 HG8; obtain ⟨hx8_0, hf8_0⟩ := Kd.R_celln 0 HO183.out ((ji5) : Int) p8 q8; replace p8 := eq_true p8; replace q8 := eq_true q8; obtain ⟨hy13_, hz13_⟩ := Kd.R_celln 0 HO183.out ((ji5) : Int) (of_decide_eq_true q5_12) (of_decide_eq_true q5_12); have HP13 := Kd.R_putg HO183.out ((ji5) : Int) 0) | ((with_reducible refine gate_store (t := 5) (p := 16) rfl ?_); refine store_event (t := 5) (p := 16) (v := ?vo_w14) (w1 := (w11.setCell ⟨go8, ((ji5) : Int).toNat, none⟩ (.int .u8 0))) ?hg ?ho ?hn ?hr ?_; (case ho => rfl); (case hg => rfl); (case hn => rfl); (case hr => first | (go_simp; done) | (go_simp; rfl)); intro w14 hw; have hg : w11.grownBy w14 (some go8) := (by rw [hw]; exact HP13.2); have hp_ : Kd.R (Kd.int .u8) 5 w14 w.heap.size (fun _ => True) (.slice (some ⟨go8, 0, none⟩) t181.length co12) y184 := (by rw [hw, Ny184.out]; exact HP13.1); clear HP13; have n0_ := Aside0.mk (hp_); have n1_ := Aside0.mk ((by rw [hw]; exact below_set (HB.out) GB8.out : Below w.heap.size w w14)); clear HO183; clear HB; have HO183 := n0_; have HB := n1_; clear n0_ n1_; clear hg hw hp_; have p10 : 0 ≤ ((ji5) : Int) := of_decide_eq_true q5_12; have q10 : ((ji5) : Int) < ((t181.length : Int) : Int) := of_decide_eq_true q5_12; obtain ⟨hx10_0, hf10_0⟩ := Kd.R_celln 0 HO183.out ((ji5) : Int) p10 q10; replace p10 := eq_true p10; replace q10 := eq_true q10; obtain ⟨hy15_, hz15_⟩ := Kd.R_celln 0 HO183.out ((ji5) : Int) (of_decide_eq_true q5_12) (of_decide_eq_true q5_12); have HP15 := Kd.R_putg HO183.out ((ji5) : Int) 1) | ((with_reducible refine gate_store (t := 5) (p := 21) rfl ?_); refine store_event (t := 5) (p := 21) (v := ?vo_w16) (w1 := (w14.setCell ⟨go8, ((ji5) : Int).toNat, none⟩ (.int .u8 1))) ?hg ?ho ?hn ?hr ?_; (case ho => rfl); (case hg => rfl); (case hn => rfl); (case hr => first | (go_simp; done) | (go_simp; rfl)); intro w16 hw; have hg : w14.grownBy w16 (some go8) := (by rw [hw]; exact HP15.2); have hp_ : Kd.R (Kd.int .u8) 5 w16 w.heap.size (fun _ => True) (.slice (some ⟨go8, 0, none⟩) t181.length co12) y185 := (by rw [hw, Ny185.out]; exact HP15.1); clear HP15; have n0_ := Aside0.mk (hp_); have n1_ := Aside0.mk ((by rw [hw]; exact below_set (HB.out) GB8.out : Below w.heap.size w w16)); clear HO183; clear HB; have HO183 := n0_; have HB := n1_; clear n0_ n1_; clear hg hw hp_))
          go_ret
          exact ⟨_, by first | rfl | (simp [errW_none, errW_some] <;> rfl) | (simp only [← hji5]; first | rfl | (simp [errW_none, errW_some] <;> rfl)) | (simp [*, errW_none, errW_some] <;> rfl), by (with_reducible repeat (first | apply Kd.R_alloc | apply Kd.R_drewN | apply Kd.R_drew)); exact HO183.out, by repeat (first | (with_reducible first | exact HB.out | apply below_alloc | apply pw_below_drewN | apply below_drew1) | exact HB.out)⟩
        · replace c9 := Bool.eq_false_iff.mpr c9
          subst c9
          have H1 : (some y184) = some r := by rw [if_neg (show ¬ (false = true) by decide)] at H; exact H
          clear H
          have H := H1
          clear H1
          obtain rfl := Option.some.inj H
          go_enter Try.func33, Try.ntmps33
          go_wp2_with (first | ((with_reducible refine gate_callee (f := 45) rfl ?_); refine goesL_ (some 8) rfl rfl Try.func45 q5_43 rfl #[.slice A0 l0.length c0] rfl q5_5 ?_; (with_reducible refine (slices_Clone_byte_byte.calls _ _ l0 t181 _ ?side1 ?side2 A3.out).mono ?_); (case side1 => repeat (first | exact HR0.out | (with_reducible refine Kd.C_alloc ?_ _) | (with_reducible refine Kd.C_drewN ?_ _) | (with_reducible refine Kd.C_drew ?_))); (case side2 => exact HC0.out); rintro e w17 ⟨v182, rfl, ho0, hb⟩; refine ⟨_, rfl, ?_⟩; have n0_ := Aside0.mk (Kd.R_lower ho0 (below_size q5_1)); have n1_ := Aside0.mk (below_step q5_1 hb); clear HB; have HO183 := n0_; have HB := n1_; clear n0_ n1_; (try clear hb); (try clear hb2); (try clear hk); (try clear hi); (try clear ho0); obtain ⟨Ao18, co18, eo18⟩ := Kd.R_slice HO183.out; subst eo18; have p8 : 0 ≤ ((ji5) : Int) := of_decide_eq_true q5_12; have q8 : ((ji5) : Int) < ((t181.length : Int) : Int) := of_decide_eq_true q5_12; obtain ⟨go8, co8, eo8, gb8, gl8, cl8, HG8⟩ := Kd.R_form HO183.out q5_45; (first | cases eo8 | (injection eo8 with ea_ en_ ec_; (first | subst ea_ | (injection ea_ with ea_; subst ea_)); subst ec_; clear en_)); have GB8 := Aside0.mk gb8; have GG8 := Aside0.mk HG8; clear gb8 gl8 HG8; obtain ⟨hx8_0, hf8_0⟩ := Kd.R_celln 0 HO183.out ((ji5) : Int) p8 q8; replace p8 := eq_true p8; replace q8 := eq_true q8; obtain ⟨hy19_, hz19_⟩ := Kd.R_celln 0 HO183.out ((ji5) : Int) (of_decide_eq_true q5_12) (of_decide_eq_true q5_12); have HP19 := Kd.R_putg HO183.out ((ji5) : Int) 0) | ((with_reducible refine gate_store (t := 5) (p := 16) rfl ?_); refine store_event (t := 5) (p := 16) (v := ?vo_w20) (w1 := (w17.setCell ⟨go8, ((ji5) : Int).toNat, none⟩ (.int .u8 0))) ?hg ?ho ?hn ?hr ?_; (case ho => rfl); (case hg => rfl); (case hn => rfl); (case hr => first | (go_simp; done) | (go_simp; rfl)); intro w20 hw; have hg : w17.grownBy w20 (some go8) := (by rw [hw]; exact HP19.2); have hp_ : Kd.R (Kd.int .u8) 5 w20 w.heap.size (fun _ => True) (.slice (some ⟨go8, 0, none⟩) t181.length co18) y184 := (by rw [hw, Ny184.out]; exact HP19.1); clear HP19; have n0_ := Aside0.mk (hp_); have n1_ := Aside0.mk ((by rw [hw]; exact below_set (HB.out) GB8.out : Below w.heap.size w w20)); clear HO183; clear HB; have HO183 := n0_; have HB := n1_; clear n0_ n1_; clear hg hw hp_))
          go_ret
          exact ⟨_, by first | rfl | (simp [errW_none, errW_some] <;> rfl) | (simp only [← hji5]; first | rfl | (simp [errW_none, errW_some] <;> rfl)) | (simp [*, errW_none, errW_some] <;> rfl), by (with_reducible repeat (first | apply Kd.R_alloc | apply Kd.R_drewN | apply Kd.R_drew)); exact HO183.out, by repeat (first | (with_reducible first | exact HB.out | apply below_alloc | apply pw_below_drewN | apply below_drew1) | exact HB.out)⟩
      · rw [if_neg c7] at H
        exact absurd H (by simp)
    · rw [if_neg c6] at H
      exact absurd H (by simp)
  · rw [if_neg c4] at H
    have c4b0 : decide (0 < (t181.length : Int)) = false := decide_eq_false c4
    have c4b1 : decide (0 < t181.length) = false := decide_eq_false q5_45
    clear c4
    obtain rfl := Option.some.inj H
    go_enter Try.func33, Try.ntmps33
    go_wp2_with (first | ((with_reducible refine gate_callee (f := 45) rfl ?_); refine goesL_ (some 8) rfl rfl Try.func45 q5_43 rfl #[.slice A0 l0.length c0] rfl q5_5 ?_; (with_reducible refine (slices_Clone_byte_byte.calls _ _ l0 t181 _ ?side1 ?side2 A3.out).mono ?_); (case side1 => repeat (first | exact HR0.out | (with_reducible refine Kd.C_alloc ?_ _) | (with_reducible refine Kd.C_drewN ?_ _) | (with_reducible refine Kd.C_drew ?_))); (case side2 => exact HC0.out); rintro e w21 ⟨v182, rfl, ho0, hb⟩; refine ⟨_, rfl, ?_⟩; have n0_ := Aside0.mk (Kd.R_lower ho0 (below_size q5_1)); have n1_ := Aside0.mk (below_step q5_1 hb); clear HB; have HO183 := n0_; have HB := n1_; clear n0_ n1_; (try clear hb); (try clear hb2); (try clear hk); (try clear hi); (try clear ho0); obtain ⟨Ao22, co22, eo22⟩ := Kd.R_slice HO183.out; subst eo22))
    go_ret
    exact ⟨_, by first | rfl | (simp [errW_none, errW_some] <;> rfl) | (simp [*, errW_none, errW_some] <;> rfl), by (with_reducible repeat (first | apply Kd.R_alloc | apply Kd.R_drewN | apply Kd.R_drew)); exact HO183.out, by repeat (first | (with_reducible first | exact HB.out | apply below_alloc | apply pw_below_drewN | apply below_drew1) | exact HB.out)⟩

/-! ### batonlaw22_awake: function 29 -/
def batonlaw22_awake.f (k : Nat)  : Option (Bool) := (record_Make.f k 1 2 (([3] : List Int))).bind fun bt189 => ((record_Marked.f bt189.1 true).bind fun t193 => ((record_Read.f k t193).bind fun bt196 => (if 256 ≤ 281474976710656 then ((record_Read.f k (List.replicate 256 0)).bind fun bt206 => (if bt189.2 = 0 then (if bt196.2.2.2 = 0 then (if bt206.2.2.2 = 3 then (if bt196.1 = 1 then (if bt196.2.1 = 2 then (if (bt196.2.2.1.length : Int) = 1 then (some true) else (some false)) else (some false)) else (some false)) else (some false)) else (some false)) else (some false))) else (none))))
theorem batonlaw22_awake.mono : ∀ k, LeO (batonlaw22_awake.f k ) (batonlaw22_awake.f (k + 1) ) := by
  intro  k
  unfold batonlaw22_awake.f
  repeat' first
      | (with_reducible exact record_Make.mono _ _ _ _)
      | (with_reducible exact record_Read.mono _ _)
      | (with_reducible exact LeO.refl _)
      | (with_reducible exact LeO.none _)
      | (with_reducible refine LeO.ite ?_ ?_)
      | (with_reducible refine LeO.bind ?_ (fun _ => ?_))
      | exact record_Make.mono _ _ _ _
      | exact record_Read.mono _ _
      | exact LeO.none _
      | refine LeO.ite ?_ ?_
      | refine LeO.bind ?_ (fun _ => ?_)
set_option maxHeartbeats 8000000 in
set_option maxRecDepth 100000 in
theorem batonlaw22_awake.calls (k : Nat)  (r : Bool) (w : World) (h : batonlaw22_awake.f k  = some r) :
    Calls Try.prog 29 #[] w fun e w' => e = .returned (.bool r) ∧ Below w.heap.size w w' := by
  have hu51 := Try.underlying51
  have HB := Aside0.mk (Below.refl w.heap.size w)
  have H : ((record_Make.f k 1 2 (([3] : List Int))).bind fun bt189 => ((record_Marked.f bt189.1 true).bind fun t193 => ((record_Read.f k t193).bind fun bt196 => (if 256 ≤ 281474976710656 then ((record_Read.f k (List.replicate 256 0)).bind fun bt206 => (if bt189.2 = 0 then (if bt196.2.2.2 = 0 then (if bt206.2.2.2 = 3 then (if bt196.1 = 1 then (if bt196.2.1 = 2 then (if (bt196.2.2.1.length : Int) = 1 then (some true) else (some false)) else (some false)) else (some false)) else (some false)) else (some false)) else (some false))) else (none))))) = some r := h
  clear h
  obtain ⟨y186, hy186⟩ : ∃ y_ : List Int, y_ = (([3] : List Int)) := ⟨_, rfl⟩
  replace H : ((record_Make.f k 1 2 y186).bind fun bt189 => ((record_Marked.f bt189.1 true).bind fun t193 => ((record_Read.f k t193).bind fun bt196 => (if 256 ≤ 281474976710656 then ((record_Read.f k (List.replicate 256 0)).bind fun bt206 => (if bt189.2 = 0 then (if bt196.2.2.2 = 0 then (if bt206.2.2.2 = 3 then (if bt196.1 = 1 then (if bt196.2.1 = 2 then (if (bt196.2.2.1.length : Int) = 1 then (some true) else (some false)) else (some false)) else (some false)) else (some false)) else (some false)) else (some false))) else (none))))) = some r := by first | (rw [hy186]; with_reducible exact H) | (have H2_ := (Option.bind_some _ _).symm.trans H; rw [hy186]; with_reducible exact H2_) | (have H2_ := (Option.bind_some _ _).symm.trans H; with_reducible exact H2_) | with_reducible exact H | (rw [hy186]; exact H) | exact H
  have Ny186 := Aside0.mk hy186
  clear hy186
  replace H := Option.bind_eq_some_iff.mp H
  obtain ⟨⟨t189, t192⟩, A10, H⟩ := H
  replace H : ((record_Marked.f t189 true).bind fun t193 => ((record_Read.f k t193).bind fun bt196 => (if 256 ≤ 281474976710656 then ((record_Read.f k (List.replicate 256 0)).bind fun bt206 => (if t192 = 0 then (if bt196.2.2.2 = 0 then (if bt206.2.2.2 = 3 then (if bt196.1 = 1 then (if bt196.2.1 = 2 then (if (bt196.2.2.1.length : Int) = 1 then (some true) else (some false)) else (some false)) else (some false)) else (some false)) else (some false)) else (some false))) else (none)))) = some r := H
  have A1 := Aside0.mk A10
  clear A10
  replace H := Option.bind_eq_some_iff.mp H
  obtain ⟨t193, A20, H⟩ := H
  replace H : ((record_Read.f k t193).bind fun bt196 => (if 256 ≤ 281474976710656 then ((record_Read.f k (List.replicate 256 0)).bind fun bt206 => (if t192 = 0 then (if bt196.2.2.2 = 0 then (if bt206.2.2.2 = 3 then (if bt196.1 = 1 then (if bt196.2.1 = 2 then (if (bt196.2.2.1.length : Int) = 1 then (some true) else (some false)) else (some false)) else (some false)) else (some false)) else (some false)) else (some false))) else (none))) = some r := H
  have A2 := Aside0.mk A20
  clear A20
  replace H := Option.bind_eq_some_iff.mp H
  obtain ⟨⟨t196, t197, t198, t201⟩, A30, H⟩ := H
  replace H : (if 256 ≤ 281474976710656 then ((record_Read.f k (List.replicate 256 0)).bind fun bt206 => (if t192 = 0 then (if t201 = 0 then (if bt206.2.2.2 = 3 then (if t196 = 1 then (if t197 = 2 then (if (t198.length : Int) = 1 then (some true) else (some false)) else (some false)) else (some false)) else (some false)) else (some false)) else (some false))) else (none)) = some r := H
  have A3 := Aside0.mk A30
  clear A30
  by_cases c4 : 256 ≤ 281474976710656
  · rw [if_pos c4] at H
    have c4b0 := eq_true c4
    have c4b1 : decide (256 ≤ 281474976710656) = true := decide_eq_true c4
    clear c4
    obtain ⟨y203, hy203⟩ : ∃ y_ : List Int, y_ = (List.replicate 256 0) := ⟨_, rfl⟩
    replace H : ((record_Read.f k y203).bind fun bt206 => (if t192 = 0 then (if t201 = 0 then (if bt206.2.2.2 = 3 then (if t196 = 1 then (if t197 = 2 then (if (t198.length : Int) = 1 then (some true) else (some false)) else (some false)) else (some false)) else (some false)) else (some false)) else (some false))) = some r := by first | (rw [hy203]; with_reducible exact H) | (have H2_ := (Option.bind_some _ _).symm.trans H; rw [hy203]; with_reducible exact H2_) | (have H2_ := (Option.bind_some _ _).symm.trans H; with_reducible exact H2_) | with_reducible exact H | (rw [hy203]; exact H) | exact H
    have Ny203 := Aside0.mk hy203
    clear hy203
    replace H := Option.bind_eq_some_iff.mp H
    obtain ⟨⟨t206, t207, t208, t211⟩, A50, H⟩ := H
    replace H : (if t192 = 0 then (if t201 = 0 then (if t211 = 3 then (if t196 = 1 then (if t197 = 2 then (if (t198.length : Int) = 1 then (some true) else (some false)) else (some false)) else (some false)) else (some false)) else (some false)) else (some false)) = some r := H
    have A5 := Aside0.mk A50
    clear A50
    by_cases c6 : t192 = 0
    · rw [if_pos c6] at H
      have c6b0 : (t192 == 0) = true := beq_iff_eq.mpr c6
      have c6b1 : (t192 != 0) = false := bne_eq_false_iff_eq.mpr c6
      clear c6
      by_cases c7 : t201 = 0
      · rw [if_pos c7] at H
        have c7b0 : (t201 == 0) = true := beq_iff_eq.mpr c7
        have c7b1 : (t201 != 0) = false := bne_eq_false_iff_eq.mpr c7
        clear c7
        by_cases c8 : t211 = 3
        · rw [if_pos c8] at H
          have c8b0 : (t211 == 3) = true := beq_iff_eq.mpr c8
          have c8b1 : (t211 != 3) = false := bne_eq_false_iff_eq.mpr c8
          clear c8
          by_cases c9 : t196 = 1
          · rw [if_pos c9] at H
            have c9b0 : (t196 == 1) = true := beq_iff_eq.mpr c9
            have c9b1 : (t196 != 1) = false := bne_eq_false_iff_eq.mpr c9
            clear c9
            by_cases c10 : t197 = 2
            · rw [if_pos c10] at H
              have c10b0 : (t197 == 2) = true := beq_iff_eq.mpr c10
              have c10b1 : (t197 != 2) = false := bne_eq_false_iff_eq.mpr c10
              clear c10
              by_cases c11 : (t198.length : Int) = 1
              · rw [if_pos c11] at H
                have c11b0 : ((t198.length : Int) == 1) = true := beq_iff_eq.mpr c11
                have c11b1 : ((t198.length : Int) != 1) = false := bne_eq_false_iff_eq.mpr c11
                clear c11
                obtain rfl := Option.some.inj H
                go_enter Try.func29, Try.ntmps29
                go_wp2_with (first | ((with_reducible refine gate_dst (N := 8) rfl ?_); (try (refine gate_guard (by rfl) ?_; dsimp only)); refine Kd.R_lit (Kd.int .u8) _ 5 ?hg (N := 8) ?hd (xs := ([3] : List Int)) (inner := [.int .u8 3]) (ok := fun _ => True) (okp := fun _ => True) ?hr ?hp (fun _ hk => hk) trivial (Below.refl _ _) (Nat.le_refl _) (by simp) ?_; (case hd => rfl); (case hg => rfl); (case hr => first | (go_simp; done) | (go_simp; rfl)); (case hp => exact (Reps.one (show Kd.M (Kd.int .u8) _ _ _ 3 [.int .u8 3] from rfl) (Reps.none _ _))); intro v187 w12 ho13 hb hg_ hnew_; clear hg_ hnew_; (first | rw [← Ny186.out] at ho13 | (simp only [Int.reduceToNat] at ho13; rw [← Ny186.out] at ho13)); have n0_ := Aside0.mk (Kd.R_lower ho13 (below_size q5_1)); have n1_ := Aside0.mk (below_step q5_1 hb); clear HB; have HO188 := n0_; have HB := n1_; clear n0_ n1_; clear hb ho13; obtain ⟨Ao14, co14, eo14⟩ := Kd.R_slice HO188.out; subst eo14) | ((with_reducible refine gate_callee (f := 30) rfl ?_); refine goesL_ (some 10) rfl rfl Try.func30 q5_43 rfl #[.agg #[.int .i64 1, .int .i64 2, .slice Ao14 y186.length co14]] rfl q5_5 ?_; (with_reducible refine (record_Make.calls k 1 2 _ _ y186 t189 t192 _ ?side1 ?side2 A1.out).mono ?_); (case side1 => repeat (first | exact (Kd.R_reads' HO188.out).2.2 | (with_reducible refine Kd.C_alloc ?_ _) | (with_reducible refine Kd.C_drewN ?_ _) | (with_reducible refine Kd.C_drew ?_))); (case side2 => exact (Kd.R_reads' HO188.out).2.1); rintro e w15 ⟨v190, rfl, ho0, hb⟩; refine ⟨_, rfl, ?_⟩; have n0_ := Aside0.mk (Kd.R_elder' q5_3 (Kd.R_base ho0) hb); have n1_ := Aside0.mk (Kd.R_lower (Kd.R_new' ho0 (Kd.R_lt q5_3)) (below_size q5_1)); have n2_ := Aside0.mk (below_step q5_1 hb); clear HO188; clear HB; have HO188 := n0_; have HO191 := n1_; have HB := n2_; clear n0_ n1_ n2_; (try clear hb); (try clear hb2); (try clear hk); (try clear hi); (try clear ho0); obtain ⟨Ao16, co16, eo16⟩ := Kd.R_slice HO191.out; subst eo16) | ((with_reducible refine gate_callee (f := 33) rfl ?_); refine goesL_ (some 15) rfl rfl Try.func33 q5_43 rfl #[.slice Ao16 t189.length co16, .bool true] rfl q5_5 ?_; (with_reducible refine (record_Marked.calls _ _ t189 true t193 _ ?side1 ?side2 A2.out).mono ?_); (case side1 => repeat (first | exact (Kd.R_reads' HO191.out).2.2 | (with_reducible refine Kd.C_alloc ?_ _) | (with_reducible refine Kd.C_drewN ?_ _) | (with_reducible refine Kd.C_drew ?_))); (case side2 => exact (Kd.R_reads' HO191.out).2.1); rintro e w17 ⟨v194, rfl, ho0, hb⟩; refine ⟨_, rfl, ?_⟩; have n0_ := Aside0.mk (Kd.R_elder' q5_3 (Kd.R_base ho0) hb); have n1_ := Aside0.mk (Kd.R_elder' q5_4 (Kd.R_base ho0) hb); have n2_ := Aside0.mk (Kd.R_lower (Kd.R_new' (Kd.R_new' ho0 (Kd.R_lt q5_3)) (Kd.R_lt q5_4)) (below_size q5_1)); have n3_ := Aside0.mk (below_step q5_1 hb); clear HO188; clear HO191; clear HB; have HO188 := n0_; have HO191 := n1_; have HO195 := n2_; have HB := n3_; clear n0_ n1_ n2_ n3_; (try clear hb); (try clear hb2); (try clear hk); (try clear hi); (try clear ho0); obtain ⟨Ao18, co18, eo18⟩ := Kd.R_slice HO195.out; subst eo18) | ((with_reducible refine gate_callee (f := 32) rfl ?_); refine goesL_ (some 16) rfl rfl Try.func32 q5_43 rfl #[.slice Ao18 t193.length co18] rfl q5_5 ?_; (with_reducible refine (record_Read.calls k _ _ t193 t196 t197 t198 t201 _ ?side1 ?side2 A3.out).mono ?_); (case side1 => repeat (first | exact (Kd.R_reads' HO195.out).2.2 | (with_reducible refine Kd.C_alloc ?_ _) | (with_reducible refine Kd.C_drewN ?_ _) | (with_reducible refine Kd.C_drew ?_))); (case side2 => exact (Kd.R_reads' HO195.out).2.1); rintro e w19 ⟨v199, rfl, ho0, hb⟩; refine ⟨_, rfl, ?_⟩; have n0_ := Aside0.mk (Kd.R_elder' q5_3 (Kd.R_base ho0) hb); have n1_ := Aside0.mk (Kd.R_elder' q5_4 (Kd.R_base ho0) hb); have n2_ := Aside0.mk (Kd.R_elder' q5_6 (Kd.R_base ho0) hb); have n3_ := Aside0.mk (Kd.R_lower (Kd.R_new' (Kd.R_new' (Kd.R_new' ho0 (Kd.R_lt q5_3)) (Kd.R_lt q5_4)) (Kd.R_lt q5_6)) (below_size q5_1)); have n4_ := Aside0.mk (below_step q5_1 hb); clear HO188; clear HO191; clear HO195; clear HB; have HO188 := n0_; have HO191 := n1_; have HO195 := n2_; have HO200 := n3_; have HB := n4_; clear n0_ n1_ n2_ n3_ n4_; (try clear hb); (try clear hb2); (try clear hk); (try clear hi); (try clear ho0)) | ((with_reducible refine gate_dst (N := 3) rfl ?_); (try (refine gate_guard (by rfl) ?_; dsimp only)); refine box_event ?hg (N := 3) ?hd (cs := #[.int .i64 0, .int .i64 0, .slice none 0 0]) (t := 51) ?hr ?_; (case hd => rfl); (case hg => rfl); (case hr => first | (go_simp; done) | (go_simp; rfl)); intro gb202 hg w20 hbox hb; have n0_ := Aside0.mk (Kd.R_below q5_3 hb); have n1_ := Aside0.mk (Kd.R_below q5_4 hb); have n2_ := Aside0.mk (Kd.R_below q5_6 hb); have n3_ := Aside0.mk (Kd.R_below q5_9 hb); have n4_ := Aside0.mk (below_step q5_1 hb); have n5_ := Aside0.mk (hbox); have n6_ := Aside0.mk ((by rw [hg]; exact (below_size q5_1) : w.heap.size ≤ gb202)); have n7_ := Aside0.mk ((by rw [hg]; exact (below_size q5_1) : w.heap.size ≤ gb202)); clear HO188; clear HO191; clear HO195; clear HO200; clear HB; have HO188 := n0_; have HO191 := n1_; have HO195 := n2_; have HO200 := n3_; have HB := n4_; have BK202 := n5_; have GW202 := n6_; have GE202 := n7_; clear n0_ n1_ n2_ n3_ n4_ n5_ n6_ n7_; clear hb hbox hg; have hcz21_0 : w20.cell? ⟨gb202, 0, none⟩ = some (.int .i64 0) := (blk_cell BK202.out 0).trans rfl; have hcz21_1 : w20.cell? ⟨gb202, 1, none⟩ = some (.int .i64 0) := (blk_cell BK202.out 1).trans rfl; have hcz21_2 : w20.cell? ⟨gb202, 2, none⟩ = some (.slice none 0 0) := (blk_cell BK202.out 2).trans rfl; have hfz21_0 := blk_frozen BK202.out 0; have hfz21_1 := blk_frozen BK202.out 1; have hfz21_2 := blk_frozen BK202.out 2; obtain ⟨Ao22, co22, eo22⟩ := Kd.R_slice HO200.out; subst eo22) | ((with_reducible refine gate_dst (N := 20) rfl ?_); (try (refine gate_guard (by rfl) ?_; dsimp only)); refine Kd.R_make (Kd.int .u8) _ 5 rfl (N := 20) rfl 27 _ _ rfl 256 rfl rfl Try.underlying27 (.int .u8 0) 1 info5 rfl q5_14 q5_45 0 (ok := fun _ => True) (okp := fun _ => True) rfl (fun _ hk => hk) trivial q5_45 q5_45 (Below.refl _ _) (Nat.le_refl _) ?_; intro v204 w23 ho24 hb hg_ hnew_; clear hg_ hnew_; (first | rw [← Ny203.out] at ho24 | (simp only [Int.reduceToNat] at ho24; rw [← Ny203.out] at ho24)); have n0_ := Aside0.mk (Kd.R_elder' q5_42 (Kd.R_base ho24) hb); have n1_ := Aside0.mk (Kd.R_elder' q5_38 (Kd.R_base ho24) hb); have n2_ := Aside0.mk (Kd.R_elder' q5_34 (Kd.R_base ho24) hb); have n3_ := Aside0.mk (Kd.R_elder' q5_30 (Kd.R_base ho24) hb); have n4_ := Aside0.mk (Kd.R_lower (Kd.R_new' (Kd.R_new' (Kd.R_new' (Kd.R_new' ho24 (Kd.R_lt q5_42)) (Kd.R_lt q5_38)) (Kd.R_lt q5_34)) (Kd.R_lt q5_30)) (below_size q5_2)); have n5_ := Aside0.mk (blk_below (g := gb202) (o := .cells #[.int .i64 t196, .int .i64 t197, .slice Ao22 t198.length co22] 51 (0, 0)) q5_7 hb); have n6_ := Aside0.mk (below_step q5_2 hb); clear HO188; clear HO191; clear HO195; clear HO200; clear BK202; clear HB; have HO188 := n0_; have HO191 := n1_; have HO195 := n2_; have HO200 := n3_; have HO205 := n4_; have BK202 := n5_; have HB := n6_; clear n0_ n1_ n2_ n3_ n4_ n5_ n6_; clear hb ho24; obtain ⟨Ao25, co25, eo25⟩ := Kd.R_slice HO205.out; subst eo25) | ((with_reducible refine gate_callee (f := 32) rfl ?_); refine goesL_ (some 21) rfl rfl Try.func32 q5_43 rfl #[.slice Ao25 y203.length co25] rfl q5_5 ?_; (with_reducible refine (record_Read.calls k _ _ y203 t206 t207 t208 t211 _ ?side1 ?side2 A5.out).mono ?_); (case side1 => repeat (first | exact (Kd.R_reads' HO205.out).2.2 | (with_reducible refine Kd.C_alloc ?_ _) | (with_reducible refine Kd.C_drewN ?_ _) | (with_reducible refine Kd.C_drew ?_))); (case side2 => exact (Kd.R_reads' HO205.out).2.1); rintro e w26 ⟨v209, rfl, ho0, hb⟩; refine ⟨_, rfl, ?_⟩; have n0_ := Aside0.mk (Kd.R_elder' q5_3 (Kd.R_base ho0) hb); have n1_ := Aside0.mk (Kd.R_elder' q5_4 (Kd.R_base ho0) hb); have n2_ := Aside0.mk (Kd.R_elder' q5_6 (Kd.R_base ho0) hb); have n3_ := Aside0.mk (Kd.R_elder' q5_9 (Kd.R_base ho0) hb); have n4_ := Aside0.mk (Kd.R_elder' q5_10 (Kd.R_base ho0) hb); have n5_ := Aside0.mk (Kd.R_lower (Kd.R_new' (Kd.R_new' (Kd.R_new' (Kd.R_new' (Kd.R_new' ho0 (Kd.R_lt q5_3)) (Kd.R_lt q5_4)) (Kd.R_lt q5_6)) (Kd.R_lt q5_9)) (Kd.R_lt q5_10)) (below_size q5_2)); have n6_ := Aside0.mk (blk_below (g := gb202) (o := .cells #[.int .i64 t196, .int .i64 t197, .slice Ao22 t198.length co22] 51 (0, 0)) q5_8 hb); have n7_ := Aside0.mk (below_step q5_2 hb); clear HO188; clear HO191; clear HO195; clear HO200; clear HO205; clear BK202; clear HB; have HO188 := n0_; have HO191 := n1_; have HO195 := n2_; have HO200 := n3_; have HO205 := n4_; have HO210 := n5_; have BK202 := n6_; have HB := n7_; clear n0_ n1_ n2_ n3_ n4_ n5_ n6_ n7_; (try clear hb); (try clear hb2); (try clear hk); (try clear hi); (try clear ho0)) | ((with_reducible refine gate_dst (N := 5) rfl ?_); (try (refine gate_guard (by rfl) ?_; dsimp only)); refine box_event ?hg (N := 5) ?hd (cs := #[.int .i64 0, .int .i64 0, .slice none 0 0]) (t := 51) ?hr ?_; (case hd => rfl); (case hg => rfl); (case hr => first | (go_simp; done) | (go_simp; rfl)); intro gb212 hg w27 hbox hb; have n0_ := Aside0.mk (Kd.R_below q5_3 hb); have n1_ := Aside0.mk (Kd.R_below q5_4 hb); have n2_ := Aside0.mk (Kd.R_below q5_6 hb); have n3_ := Aside0.mk (Kd.R_below q5_9 hb); have n4_ := Aside0.mk (Kd.R_below q5_10 hb); have n5_ := Aside0.mk (Kd.R_below q5_13 hb); have n6_ := Aside0.mk (blk_below (g := gb202) (o := .cells #[.int .i64 t196, .int .i64 t197, .slice Ao22 t198.length co22] 51 (0, 0)) q5_8 hb); have n7_ := Aside0.mk (below_step q5_2 hb); have n8_ := Aside0.mk (hbox); have n9_ := Aside0.mk ((by rw [hg]; exact (below_size q5_2) : w.heap.size ≤ gb212)); have n10_ := Aside0.mk ((by rw [hg]; exact (below_size q5_2) : w.heap.size ≤ gb212)); have n11_ := Aside0.mk ((by rw [hg]; exact Nat.ne_of_lt (blk_lt (g := gb202) (o := .cells #[.int .i64 t196, .int .i64 t197, .slice Ao22 t198.length co22] 51 (0, 0)) q5_8) : gb202 ≠ gb212)); have n12_ := Aside0.mk ((by rw [hg]; exact Nat.ne_of_gt (blk_lt (g := gb202) (o := .cells #[.int .i64 t196, .int .i64 t197, .slice Ao22 t198.length co22] 51 (0, 0)) q5_8) : gb212 ≠ gb202)); clear HO188; clear HO191; clear HO195; clear HO200; clear HO205; clear HO210; clear BK202; clear HB; have HO188 := n0_; have HO191 := n1_; have HO195 := n2_; have HO200 := n3_; have HO205 := n4_; have HO210 := n5_; have BK202 := n6_; have HB := n7_; have BK212 := n8_; have GW212 := n9_; have GE212 := n10_; have NB202_212 := n11_; have NB212_202 := n12_; clear n0_ n1_ n2_ n3_ n4_ n5_ n6_ n7_ n8_ n9_ n10_ n11_ n12_; clear hb hbox hg; have hnb28 := NB212_202.out; have hnc28 := NB202_212.out; have hcz29_0 : w27.cell? ⟨gb212, 0, none⟩ = some (.int .i64 0) := (blk_cell BK212.out 0).trans rfl; have hcz29_1 : w27.cell? ⟨gb212, 1, none⟩ = some (.int .i64 0) := (blk_cell BK212.out 1).trans rfl; have hcz29_2 : w27.cell? ⟨gb212, 2, none⟩ = some (.slice none 0 0) := (blk_cell BK212.out 2).trans rfl; have hfz29_0 := blk_frozen BK212.out 0; have hfz29_1 := blk_frozen BK212.out 1; have hfz29_2 := blk_frozen BK212.out 2; obtain ⟨Ao30, co30, eo30⟩ := Kd.R_slice HO210.out; subst eo30; have hcz31_0 : w27.cell? ⟨gb202, 0, none⟩ = some (.int .i64 t196) := (blk_cell BK202.out 0).trans rfl; have hcz31_1 : w27.cell? ⟨gb202, 1, none⟩ = some (.int .i64 t197) := (blk_cell BK202.out 1).trans rfl; have hcz31_2 : w27.cell? ⟨gb202, 2, none⟩ = some (.slice Ao22 t198.length co22) := (blk_cell BK202.out 2).trans rfl; have hfz31_0 := blk_frozen BK202.out 0; have hfz31_1 := blk_frozen BK202.out 1; have hfz31_2 := blk_frozen BK202.out 2))
                go_ret
                exact ⟨by first | rfl | (simp [errW_none, errW_some] <;> rfl) | (simp [*, errW_none, errW_some] <;> rfl), by repeat (first | (with_reducible first | exact HB.out | apply below_alloc | apply pw_below_drewN | apply below_drew1 | refine below_set ?_ GE202.out | refine below_set ?_ GE212.out) | exact HB.out)⟩
              · rw [if_neg c11] at H
                have c11b0 : ((t198.length : Int) == 1) = false := beq_eq_false_iff_ne.mpr c11
                have c11b1 : ((t198.length : Int) != 1) = true := bne_iff_ne.mpr c11
                obtain rfl := Option.some.inj H
                go_enter Try.func29, Try.ntmps29
                go_wp2_with (first | ((with_reducible refine gate_dst (N := 8) rfl ?_); (try (refine gate_guard (by rfl) ?_; dsimp only)); refine Kd.R_lit (Kd.int .u8) _ 5 ?hg (N := 8) ?hd (xs := ([3] : List Int)) (inner := [.int .u8 3]) (ok := fun _ => True) (okp := fun _ => True) ?hr ?hp (fun _ hk => hk) trivial (Below.refl _ _) (Nat.le_refl _) (by simp) ?_; (case hd => rfl); (case hg => rfl); (case hr => first | (go_simp; done) | (go_simp; rfl)); (case hp => exact (Reps.one (show Kd.M (Kd.int .u8) _ _ _ 3 [.int .u8 3] from rfl) (Reps.none _ _))); intro v187 w32 ho33 hb hg_ hnew_; clear hg_ hnew_; (first | rw [← Ny186.out] at ho33 | (simp only [Int.reduceToNat] at ho33; rw [← Ny186.out] at ho33)); have n0_ := Aside0.mk (Kd.R_lower ho33 (below_size q5_1)); have n1_ := Aside0.mk (below_step q5_1 hb); clear HB; have HO188 := n0_; have HB := n1_; clear n0_ n1_; clear hb ho33; obtain ⟨Ao34, co34, eo34⟩ := Kd.R_slice HO188.out; subst eo34) | ((with_reducible refine gate_callee (f := 30) rfl ?_); refine goesL_ (some 10) rfl rfl Try.func30 q5_43 rfl #[.agg #[.int .i64 1, .int .i64 2, .slice Ao34 y186.length co34]] rfl q5_5 ?_; (with_reducible refine (record_Make.calls k 1 2 _ _ y186 t189 t192 _ ?side1 ?side2 A1.out).mono ?_); (case side1 => repeat (first | exact (Kd.R_reads' HO188.out).2.2 | (with_reducible refine Kd.C_alloc ?_ _) | (with_reducible refine Kd.C_drewN ?_ _) | (with_reducible refine Kd.C_drew ?_))); (case side2 => exact (Kd.R_reads' HO188.out).2.1); rintro e w35 ⟨v190, rfl, ho0, hb⟩; refine ⟨_, rfl, ?_⟩; have n0_ := Aside0.mk (Kd.R_elder' q5_3 (Kd.R_base ho0) hb); have n1_ := Aside0.mk (Kd.R_lower (Kd.R_new' ho0 (Kd.R_lt q5_3)) (below_size q5_1)); have n2_ := Aside0.mk (below_step q5_1 hb); clear HO188; clear HB; have HO188 := n0_; have HO191 := n1_; have HB := n2_; clear n0_ n1_ n2_; (try clear hb); (try clear hb2); (try clear hk); (try clear hi); (try clear ho0); obtain ⟨Ao36, co36, eo36⟩ := Kd.R_slice HO191.out; subst eo36) | ((with_reducible refine gate_callee (f := 33) rfl ?_); refine goesL_ (some 15) rfl rfl Try.func33 q5_43 rfl #[.slice Ao36 t189.length co36, .bool true] rfl q5_5 ?_; (with_reducible refine (record_Marked.calls _ _ t189 true t193 _ ?side1 ?side2 A2.out).mono ?_); (case side1 => repeat (first | exact (Kd.R_reads' HO191.out).2.2 | (with_reducible refine Kd.C_alloc ?_ _) | (with_reducible refine Kd.C_drewN ?_ _) | (with_reducible refine Kd.C_drew ?_))); (case side2 => exact (Kd.R_reads' HO191.out).2.1); rintro e w37 ⟨v194, rfl, ho0, hb⟩; refine ⟨_, rfl, ?_⟩; have n0_ := Aside0.mk (Kd.R_elder' q5_3 (Kd.R_base ho0) hb); have n1_ := Aside0.mk (Kd.R_elder' q5_4 (Kd.R_base ho0) hb); have n2_ := Aside0.mk (Kd.R_lower (Kd.R_new' (Kd.R_new' ho0 (Kd.R_lt q5_3)) (Kd.R_lt q5_4)) (below_size q5_1)); have n3_ := Aside0.mk (below_step q5_1 hb); clear HO188; clear HO191; clear HB; have HO188 := n0_; have HO191 := n1_; have HO195 := n2_; have HB := n3_; clear n0_ n1_ n2_ n3_; (try clear hb); (try clear hb2); (try clear hk); (try clear hi); (try clear ho0); obtain ⟨Ao38, co38, eo38⟩ := Kd.R_slice HO195.out; subst eo38) | ((with_reducible refine gate_callee (f := 32) rfl ?_); refine goesL_ (some 16) rfl rfl Try.func32 q5_43 rfl #[.slice Ao38 t193.length co38] rfl q5_5 ?_; (with_reducible refine (record_Read.calls k _ _ t193 t196 t197 t198 t201 _ ?side1 ?side2 A3.out).mono ?_); (case side1 => repeat (first | exact (Kd.R_reads' HO195.out).2.2 | (with_reducible refine Kd.C_alloc ?_ _) | (with_reducible refine Kd.C_drewN ?_ _) | (with_reducible refine Kd.C_drew ?_))); (case side2 => exact (Kd.R_reads' HO195.out).2.1); rintro e w39 ⟨v199, rfl, ho0, hb⟩; refine ⟨_, rfl, ?_⟩; have n0_ := Aside0.mk (Kd.R_elder' q5_3 (Kd.R_base ho0) hb); have n1_ := Aside0.mk (Kd.R_elder' q5_4 (Kd.R_base ho0) hb); have n2_ := Aside0.mk (Kd.R_elder' q5_6 (Kd.R_base ho0) hb); have n3_ := Aside0.mk (Kd.R_lower (Kd.R_new' (Kd.R_new' (Kd.R_new' ho0 (Kd.R_lt q5_3)) (Kd.R_lt q5_4)) (Kd.R_lt q5_6)) (below_size q5_1)); have n4_ := Aside0.mk (below_step q5_1 hb); clear HO188; clear HO191; clear HO195; clear HB; have HO188 := n0_; have HO191 := n1_; have HO195 := n2_; have HO200 := n3_; have HB := n4_; clear n0_ n1_ n2_ n3_ n4_; (try clear hb); (try clear hb2); (try clear hk); (try clear hi); (try clear ho0)) | ((with_reducible refine gate_dst (N := 3) rfl ?_); (try (refine gate_guard (by rfl) ?_; dsimp only)); refine box_event ?hg (N := 3) ?hd (cs := #[.int .i64 0, .int .i64 0, .slice none 0 0]) (t := 51) ?hr ?_; (case hd => rfl); (case hg => rfl); (case hr => first | (go_simp; done) | (go_simp; rfl)); intro gb202 hg w40 hbox hb; have n0_ := Aside0.mk (Kd.R_below q5_3 hb); have n1_ := Aside0.mk (Kd.R_below q5_4 hb); have n2_ := Aside0.mk (Kd.R_below q5_6 hb); have n3_ := Aside0.mk (Kd.R_below q5_9 hb); have n4_ := Aside0.mk (below_step q5_1 hb); have n5_ := Aside0.mk (hbox); have n6_ := Aside0.mk ((by rw [hg]; exact (below_size q5_1) : w.heap.size ≤ gb202)); have n7_ := Aside0.mk ((by rw [hg]; exact (below_size q5_1) : w.heap.size ≤ gb202)); clear HO188; clear HO191; clear HO195; clear HO200; clear HB; have HO188 := n0_; have HO191 := n1_; have HO195 := n2_; have HO200 := n3_; have HB := n4_; have BK202 := n5_; have GW202 := n6_; have GE202 := n7_; clear n0_ n1_ n2_ n3_ n4_ n5_ n6_ n7_; clear hb hbox hg; have hcz41_0 : w40.cell? ⟨gb202, 0, none⟩ = some (.int .i64 0) := (blk_cell BK202.out 0).trans rfl; have hcz41_1 : w40.cell? ⟨gb202, 1, none⟩ = some (.int .i64 0) := (blk_cell BK202.out 1).trans rfl; have hcz41_2 : w40.cell? ⟨gb202, 2, none⟩ = some (.slice none 0 0) := (blk_cell BK202.out 2).trans rfl; have hfz41_0 := blk_frozen BK202.out 0; have hfz41_1 := blk_frozen BK202.out 1; have hfz41_2 := blk_frozen BK202.out 2; obtain ⟨Ao42, co42, eo42⟩ := Kd.R_slice HO200.out; subst eo42) | ((with_reducible refine gate_dst (N := 20) rfl ?_); (try (refine gate_guard (by rfl) ?_; dsimp only)); refine Kd.R_make (Kd.int .u8) _ 5 rfl (N := 20) rfl 27 _ _ rfl 256 rfl rfl Try.underlying27 (.int .u8 0) 1 info5 rfl q5_14 q5_45 0 (ok := fun _ => True) (okp := fun _ => True) rfl (fun _ hk => hk) trivial q5_45 q5_45 (Below.refl _ _) (Nat.le_refl _) ?_; intro v204 w43 ho44 hb hg_ hnew_; clear hg_ hnew_; (first | rw [← Ny203.out] at ho44 | (simp only [Int.reduceToNat] at ho44; rw [← Ny203.out] at ho44)); have n0_ := Aside0.mk (Kd.R_elder' q5_41 (Kd.R_base ho44) hb); have n1_ := Aside0.mk (Kd.R_elder' q5_37 (Kd.R_base ho44) hb); have n2_ := Aside0.mk (Kd.R_elder' q5_33 (Kd.R_base ho44) hb); have n3_ := Aside0.mk (Kd.R_elder' q5_29 (Kd.R_base ho44) hb); have n4_ := Aside0.mk (Kd.R_lower (Kd.R_new' (Kd.R_new' (Kd.R_new' (Kd.R_new' ho44 (Kd.R_lt q5_41)) (Kd.R_lt q5_37)) (Kd.R_lt q5_33)) (Kd.R_lt q5_29)) (below_size q5_2)); have n5_ := Aside0.mk (blk_below (g := gb202) (o := .cells #[.int .i64 t196, .int .i64 t197, .slice Ao42 t198.length co42] 51 (0, 0)) q5_7 hb); have n6_ := Aside0.mk (below_step q5_2 hb); clear HO188; clear HO191; clear HO195; clear HO200; clear BK202; clear HB; have HO188 := n0_; have HO191 := n1_; have HO195 := n2_; have HO200 := n3_; have HO205 := n4_; have BK202 := n5_; have HB := n6_; clear n0_ n1_ n2_ n3_ n4_ n5_ n6_; clear hb ho44; obtain ⟨Ao45, co45, eo45⟩ := Kd.R_slice HO205.out; subst eo45) | ((with_reducible refine gate_callee (f := 32) rfl ?_); refine goesL_ (some 21) rfl rfl Try.func32 q5_43 rfl #[.slice Ao45 y203.length co45] rfl q5_5 ?_; (with_reducible refine (record_Read.calls k _ _ y203 t206 t207 t208 t211 _ ?side1 ?side2 A5.out).mono ?_); (case side1 => repeat (first | exact (Kd.R_reads' HO205.out).2.2 | (with_reducible refine Kd.C_alloc ?_ _) | (with_reducible refine Kd.C_drewN ?_ _) | (with_reducible refine Kd.C_drew ?_))); (case side2 => exact (Kd.R_reads' HO205.out).2.1); rintro e w46 ⟨v209, rfl, ho0, hb⟩; refine ⟨_, rfl, ?_⟩; have n0_ := Aside0.mk (Kd.R_elder' q5_3 (Kd.R_base ho0) hb); have n1_ := Aside0.mk (Kd.R_elder' q5_4 (Kd.R_base ho0) hb); have n2_ := Aside0.mk (Kd.R_elder' q5_6 (Kd.R_base ho0) hb); have n3_ := Aside0.mk (Kd.R_elder' q5_9 (Kd.R_base ho0) hb); have n4_ := Aside0.mk (Kd.R_elder' q5_10 (Kd.R_base ho0) hb); have n5_ := Aside0.mk (Kd.R_lower (Kd.R_new' (Kd.R_new' (Kd.R_new' (Kd.R_new' (Kd.R_new' ho0 (Kd.R_lt q5_3)) (Kd.R_lt q5_4)) (Kd.R_lt q5_6)) (Kd.R_lt q5_9)) (Kd.R_lt q5_10)) (below_size q5_2)); have n6_ := Aside0.mk (blk_below (g := gb202) (o := .cells #[.int .i64 t196, .int .i64 t197, .slice Ao42 t198.length co42] 51 (0, 0)) q5_8 hb); have n7_ := Aside0.mk (below_step q5_2 hb); clear HO188; clear HO191; clear HO195; clear HO200; clear HO205; clear BK202; clear HB; have HO188 := n0_; have HO191 := n1_; have HO195 := n2_; have HO200 := n3_; have HO205 := n4_; have HO210 := n5_; have BK202 := n6_; have HB := n7_; clear n0_ n1_ n2_ n3_ n4_ n5_ n6_ n7_; (try clear hb); (try clear hb2); (try clear hk); (try clear hi); (try clear ho0)) | ((with_reducible refine gate_dst (N := 5) rfl ?_); (try (refine gate_guard (by rfl) ?_; dsimp only)); refine box_event ?hg (N := 5) ?hd (cs := #[.int .i64 0, .int .i64 0, .slice none 0 0]) (t := 51) ?hr ?_; (case hd => rfl); (case hg => rfl); (case hr => first | (go_simp; done) | (go_simp; rfl)); intro gb212 hg w47 hbox hb; have n0_ := Aside0.mk (Kd.R_below q5_3 hb); have n1_ := Aside0.mk (Kd.R_below q5_4 hb); have n2_ := Aside0.mk (Kd.R_below q5_6 hb); have n3_ := Aside0.mk (Kd.R_below q5_9 hb); have n4_ := Aside0.mk (Kd.R_below q5_10 hb); have n5_ := Aside0.mk (Kd.R_below q5_13 hb); have n6_ := Aside0.mk (blk_below (g := gb202) (o := .cells #[.int .i64 t196, .int .i64 t197, .slice Ao42 t198.length co42] 51 (0, 0)) q5_8 hb); have n7_ := Aside0.mk (below_step q5_2 hb); have n8_ := Aside0.mk (hbox); have n9_ := Aside0.mk ((by rw [hg]; exact (below_size q5_2) : w.heap.size ≤ gb212)); have n10_ := Aside0.mk ((by rw [hg]; exact (below_size q5_2) : w.heap.size ≤ gb212)); have n11_ := Aside0.mk ((by rw [hg]; exact Nat.ne_of_lt (blk_lt (g := gb202) (o := .cells #[.int .i64 t196, .int .i64 t197, .slice Ao42 t198.length co42] 51 (0, 0)) q5_8) : gb202 ≠ gb212)); have n12_ := Aside0.mk ((by rw [hg]; exact Nat.ne_of_gt (blk_lt (g := gb202) (o := .cells #[.int .i64 t196, .int .i64 t197, .slice Ao42 t198.length co42] 51 (0, 0)) q5_8) : gb212 ≠ gb202)); clear HO188; clear HO191; clear HO195; clear HO200; clear HO205; clear HO210; clear BK202; clear HB; have HO188 := n0_; have HO191 := n1_; have HO195 := n2_; have HO200 := n3_; have HO205 := n4_; have HO210 := n5_; have BK202 := n6_; have HB := n7_; have BK212 := n8_; have GW212 := n9_; have GE212 := n10_; have NB202_212 := n11_; have NB212_202 := n12_; clear n0_ n1_ n2_ n3_ n4_ n5_ n6_ n7_ n8_ n9_ n10_ n11_ n12_; clear hb hbox hg; have hnb48 := NB212_202.out; have hnc48 := NB202_212.out; have hcz49_0 : w47.cell? ⟨gb212, 0, none⟩ = some (.int .i64 0) := (blk_cell BK212.out 0).trans rfl; have hcz49_1 : w47.cell? ⟨gb212, 1, none⟩ = some (.int .i64 0) := (blk_cell BK212.out 1).trans rfl; have hcz49_2 : w47.cell? ⟨gb212, 2, none⟩ = some (.slice none 0 0) := (blk_cell BK212.out 2).trans rfl; have hfz49_0 := blk_frozen BK212.out 0; have hfz49_1 := blk_frozen BK212.out 1; have hfz49_2 := blk_frozen BK212.out 2; obtain ⟨Ao50, co50, eo50⟩ := Kd.R_slice HO210.out; subst eo50; have hcz51_0 : w47.cell? ⟨gb202, 0, none⟩ = some (.int .i64 t196) := (blk_cell BK202.out 0).trans rfl; have hcz51_1 : w47.cell? ⟨gb202, 1, none⟩ = some (.int .i64 t197) := (blk_cell BK202.out 1).trans rfl; have hcz51_2 : w47.cell? ⟨gb202, 2, none⟩ = some (.slice Ao42 t198.length co42) := (blk_cell BK202.out 2).trans rfl; have hfz51_0 := blk_frozen BK202.out 0; have hfz51_1 := blk_frozen BK202.out 1; have hfz51_2 := blk_frozen BK202.out 2))
                go_ret
                exact ⟨by first | rfl | (simp [errW_none, errW_some] <;> rfl) | (simp [*, errW_none, errW_some] <;> rfl), by repeat (first | (with_reducible first | exact HB.out | apply below_alloc | apply pw_below_drewN | apply below_drew1 | refine below_set ?_ GE202.out | refine below_set ?_ GE212.out) | exact HB.out)⟩
            · rw [if_neg c10] at H
              have c10b0 : (t197 == 2) = false := beq_eq_false_iff_ne.mpr c10
              have c10b1 : (t197 != 2) = true := bne_iff_ne.mpr c10
              obtain rfl := Option.some.inj H
              go_enter Try.func29, Try.ntmps29
              go_wp2_with (first | ((with_reducible refine gate_dst (N := 8) rfl ?_); (try (refine gate_guard (by rfl) ?_; dsimp only)); refine Kd.R_lit (Kd.int .u8) _ 5 ?hg (N := 8) ?hd (xs := ([3] : List Int)) (inner := [.int .u8 3]) (ok := fun _ => True) (okp := fun _ => True) ?hr ?hp (fun _ hk => hk) trivial (Below.refl _ _) (Nat.le_refl _) (by simp) ?_; (case hd => rfl); (case hg => rfl); (case hr => first | (go_simp; done) | (go_simp; rfl)); (case hp => exact (Reps.one (show Kd.M (Kd.int .u8) _ _ _ 3 [.int .u8 3] from rfl) (Reps.none _ _))); intro v187 w52 ho53 hb hg_ hnew_; clear hg_ hnew_; (first | rw [← Ny186.out] at ho53 | (simp only [Int.reduceToNat] at ho53; rw [← Ny186.out] at ho53)); have n0_ := Aside0.mk (Kd.R_lower ho53 (below_size q5_1)); have n1_ := Aside0.mk (below_step q5_1 hb); clear HB; have HO188 := n0_; have HB := n1_; clear n0_ n1_; clear hb ho53; obtain ⟨Ao54, co54, eo54⟩ := Kd.R_slice HO188.out; subst eo54) | ((with_reducible refine gate_callee (f := 30) rfl ?_); refine goesL_ (some 10) rfl rfl Try.func30 q5_43 rfl #[.agg #[.int .i64 1, .int .i64 2, .slice Ao54 y186.length co54]] rfl q5_5 ?_; (with_reducible refine (record_Make.calls k 1 2 _ _ y186 t189 t192 _ ?side1 ?side2 A1.out).mono ?_); (case side1 => repeat (first | exact (Kd.R_reads' HO188.out).2.2 | (with_reducible refine Kd.C_alloc ?_ _) | (with_reducible refine Kd.C_drewN ?_ _) | (with_reducible refine Kd.C_drew ?_))); (case side2 => exact (Kd.R_reads' HO188.out).2.1); rintro e w55 ⟨v190, rfl, ho0, hb⟩; refine ⟨_, rfl, ?_⟩; have n0_ := Aside0.mk (Kd.R_elder' q5_3 (Kd.R_base ho0) hb); have n1_ := Aside0.mk (Kd.R_lower (Kd.R_new' ho0 (Kd.R_lt q5_3)) (below_size q5_1)); have n2_ := Aside0.mk (below_step q5_1 hb); clear HO188; clear HB; have HO188 := n0_; have HO191 := n1_; have HB := n2_; clear n0_ n1_ n2_; (try clear hb); (try clear hb2); (try clear hk); (try clear hi); (try clear ho0); obtain ⟨Ao56, co56, eo56⟩ := Kd.R_slice HO191.out; subst eo56) | ((with_reducible refine gate_callee (f := 33) rfl ?_); refine goesL_ (some 15) rfl rfl Try.func33 q5_43 rfl #[.slice Ao56 t189.length co56, .bool true] rfl q5_5 ?_; (with_reducible refine (record_Marked.calls _ _ t189 true t193 _ ?side1 ?side2 A2.out).mono ?_); (case side1 => repeat (first | exact (Kd.R_reads' HO191.out).2.2 | (with_reducible refine Kd.C_alloc ?_ _) | (with_reducible refine Kd.C_drewN ?_ _) | (with_reducible refine Kd.C_drew ?_))); (case side2 => exact (Kd.R_reads' HO191.out).2.1); rintro e w57 ⟨v194, rfl, ho0, hb⟩; refine ⟨_, rfl, ?_⟩; have n0_ := Aside0.mk (Kd.R_elder' q5_3 (Kd.R_base ho0) hb); have n1_ := Aside0.mk (Kd.R_elder' q5_4 (Kd.R_base ho0) hb); have n2_ := Aside0.mk (Kd.R_lower (Kd.R_new' (Kd.R_new' ho0 (Kd.R_lt q5_3)) (Kd.R_lt q5_4)) (below_size q5_1)); have n3_ := Aside0.mk (below_step q5_1 hb); clear HO188; clear HO191; clear HB; have HO188 := n0_; have HO191 := n1_; have HO195 := n2_; have HB := n3_; clear n0_ n1_ n2_ n3_; (try clear hb); (try clear hb2); (try clear hk); (try clear hi); (try clear ho0); obtain ⟨Ao58, co58, eo58⟩ := Kd.R_slice HO195.out; subst eo58) | ((with_reducible refine gate_callee (f := 32) rfl ?_); refine goesL_ (some 16) rfl rfl Try.func32 q5_43 rfl #[.slice Ao58 t193.length co58] rfl q5_5 ?_; (with_reducible refine (record_Read.calls k _ _ t193 t196 t197 t198 t201 _ ?side1 ?side2 A3.out).mono ?_); (case side1 => repeat (first | exact (Kd.R_reads' HO195.out).2.2 | (with_reducible refine Kd.C_alloc ?_ _) | (with_reducible refine Kd.C_drewN ?_ _) | (with_reducible refine Kd.C_drew ?_))); (case side2 => exact (Kd.R_reads' HO195.out).2.1); rintro e w59 ⟨v199, rfl, ho0, hb⟩; refine ⟨_, rfl, ?_⟩; have n0_ := Aside0.mk (Kd.R_elder' q5_3 (Kd.R_base ho0) hb); have n1_ := Aside0.mk (Kd.R_elder' q5_4 (Kd.R_base ho0) hb); have n2_ := Aside0.mk (Kd.R_elder' q5_6 (Kd.R_base ho0) hb); have n3_ := Aside0.mk (Kd.R_lower (Kd.R_new' (Kd.R_new' (Kd.R_new' ho0 (Kd.R_lt q5_3)) (Kd.R_lt q5_4)) (Kd.R_lt q5_6)) (below_size q5_1)); have n4_ := Aside0.mk (below_step q5_1 hb); clear HO188; clear HO191; clear HO195; clear HB; have HO188 := n0_; have HO191 := n1_; have HO195 := n2_; have HO200 := n3_; have HB := n4_; clear n0_ n1_ n2_ n3_ n4_; (try clear hb); (try clear hb2); (try clear hk); (try clear hi); (try clear ho0)) | ((with_reducible refine gate_dst (N := 3) rfl ?_); (try (refine gate_guard (by rfl) ?_; dsimp only)); refine box_event ?hg (N := 3) ?hd (cs := #[.int .i64 0, .int .i64 0, .slice none 0 0]) (t := 51) ?hr ?_; (case hd => rfl); (case hg => rfl); (case hr => first | (go_simp; done) | (go_simp; rfl)); intro gb202 hg w60 hbox hb; have n0_ := Aside0.mk (Kd.R_below q5_3 hb); have n1_ := Aside0.mk (Kd.R_below q5_4 hb); have n2_ := Aside0.mk (Kd.R_below q5_6 hb); have n3_ := Aside0.mk (Kd.R_below q5_9 hb); have n4_ := Aside0.mk (below_step q5_1 hb); have n5_ := Aside0.mk (hbox); have n6_ := Aside0.mk ((by rw [hg]; exact (below_size q5_1) : w.heap.size ≤ gb202)); have n7_ := Aside0.mk ((by rw [hg]; exact (below_size q5_1) : w.heap.size ≤ gb202)); clear HO188; clear HO191; clear HO195; clear HO200; clear HB; have HO188 := n0_; have HO191 := n1_; have HO195 := n2_; have HO200 := n3_; have HB := n4_; have BK202 := n5_; have GW202 := n6_; have GE202 := n7_; clear n0_ n1_ n2_ n3_ n4_ n5_ n6_ n7_; clear hb hbox hg; have hcz61_0 : w60.cell? ⟨gb202, 0, none⟩ = some (.int .i64 0) := (blk_cell BK202.out 0).trans rfl; have hcz61_1 : w60.cell? ⟨gb202, 1, none⟩ = some (.int .i64 0) := (blk_cell BK202.out 1).trans rfl; have hcz61_2 : w60.cell? ⟨gb202, 2, none⟩ = some (.slice none 0 0) := (blk_cell BK202.out 2).trans rfl; have hfz61_0 := blk_frozen BK202.out 0; have hfz61_1 := blk_frozen BK202.out 1; have hfz61_2 := blk_frozen BK202.out 2; obtain ⟨Ao62, co62, eo62⟩ := Kd.R_slice HO200.out; subst eo62) | ((with_reducible refine gate_dst (N := 20) rfl ?_); (try (refine gate_guard (by rfl) ?_; dsimp only)); refine Kd.R_make (Kd.int .u8) _ 5 rfl (N := 20) rfl 27 _ _ rfl 256 rfl rfl Try.underlying27 (.int .u8 0) 1 info5 rfl q5_14 q5_45 0 (ok := fun _ => True) (okp := fun _ => True) rfl (fun _ hk => hk) trivial q5_45 q5_45 (Below.refl _ _) (Nat.le_refl _) ?_; intro v204 w63 ho64 hb hg_ hnew_; clear hg_ hnew_; (first | rw [← Ny203.out] at ho64 | (simp only [Int.reduceToNat] at ho64; rw [← Ny203.out] at ho64)); have n0_ := Aside0.mk (Kd.R_elder' q5_40 (Kd.R_base ho64) hb); have n1_ := Aside0.mk (Kd.R_elder' q5_36 (Kd.R_base ho64) hb); have n2_ := Aside0.mk (Kd.R_elder' q5_32 (Kd.R_base ho64) hb); have n3_ := Aside0.mk (Kd.R_elder' q5_28 (Kd.R_base ho64) hb); have n4_ := Aside0.mk (Kd.R_lower (Kd.R_new' (Kd.R_new' (Kd.R_new' (Kd.R_new' ho64 (Kd.R_lt q5_40)) (Kd.R_lt q5_36)) (Kd.R_lt q5_32)) (Kd.R_lt q5_28)) (below_size q5_2)); have n5_ := Aside0.mk (blk_below (g := gb202) (o := .cells #[.int .i64 t196, .int .i64 t197, .slice Ao62 t198.length co62] 51 (0, 0)) q5_7 hb); have n6_ := Aside0.mk (below_step q5_2 hb); clear HO188; clear HO191; clear HO195; clear HO200; clear BK202; clear HB; have HO188 := n0_; have HO191 := n1_; have HO195 := n2_; have HO200 := n3_; have HO205 := n4_; have BK202 := n5_; have HB := n6_; clear n0_ n1_ n2_ n3_ n4_ n5_ n6_; clear hb ho64; obtain ⟨Ao65, co65, eo65⟩ := Kd.R_slice HO205.out; subst eo65) | ((with_reducible refine gate_callee (f := 32) rfl ?_); refine goesL_ (some 21) rfl rfl Try.func32 q5_43 rfl #[.slice Ao65 y203.length co65] rfl q5_5 ?_; (with_reducible refine (record_Read.calls k _ _ y203 t206 t207 t208 t211 _ ?side1 ?side2 A5.out).mono ?_); (case side1 => repeat (first | exact (Kd.R_reads' HO205.out).2.2 | (with_reducible refine Kd.C_alloc ?_ _) | (with_reducible refine Kd.C_drewN ?_ _) | (with_reducible refine Kd.C_drew ?_))); (case side2 => exact (Kd.R_reads' HO205.out).2.1); rintro e w66 ⟨v209, rfl, ho0, hb⟩; refine ⟨_, rfl, ?_⟩; have n0_ := Aside0.mk (Kd.R_elder' q5_3 (Kd.R_base ho0) hb); have n1_ := Aside0.mk (Kd.R_elder' q5_4 (Kd.R_base ho0) hb); have n2_ := Aside0.mk (Kd.R_elder' q5_6 (Kd.R_base ho0) hb); have n3_ := Aside0.mk (Kd.R_elder' q5_9 (Kd.R_base ho0) hb); have n4_ := Aside0.mk (Kd.R_elder' q5_10 (Kd.R_base ho0) hb); have n5_ := Aside0.mk (Kd.R_lower (Kd.R_new' (Kd.R_new' (Kd.R_new' (Kd.R_new' (Kd.R_new' ho0 (Kd.R_lt q5_3)) (Kd.R_lt q5_4)) (Kd.R_lt q5_6)) (Kd.R_lt q5_9)) (Kd.R_lt q5_10)) (below_size q5_2)); have n6_ := Aside0.mk (blk_below (g := gb202) (o := .cells #[.int .i64 t196, .int .i64 t197, .slice Ao62 t198.length co62] 51 (0, 0)) q5_8 hb); have n7_ := Aside0.mk (below_step q5_2 hb); clear HO188; clear HO191; clear HO195; clear HO200; clear HO205; clear BK202; clear HB; have HO188 := n0_; have HO191 := n1_; have HO195 := n2_; have HO200 := n3_; have HO205 := n4_; have HO210 := n5_; have BK202 := n6_; have HB := n7_; clear n0_ n1_ n2_ n3_ n4_ n5_ n6_ n7_; (try clear hb); (try clear hb2); (try clear hk); (try clear hi); (try clear ho0)) | ((with_reducible refine gate_dst (N := 5) rfl ?_); (try (refine gate_guard (by rfl) ?_; dsimp only)); refine box_event ?hg (N := 5) ?hd (cs := #[.int .i64 0, .int .i64 0, .slice none 0 0]) (t := 51) ?hr ?_; (case hd => rfl); (case hg => rfl); (case hr => first | (go_simp; done) | (go_simp; rfl)); intro gb212 hg w67 hbox hb; have n0_ := Aside0.mk (Kd.R_below q5_3 hb); have n1_ := Aside0.mk (Kd.R_below q5_4 hb); have n2_ := Aside0.mk (Kd.R_below q5_6 hb); have n3_ := Aside0.mk (Kd.R_below q5_9 hb); have n4_ := Aside0.mk (Kd.R_below q5_10 hb); have n5_ := Aside0.mk (Kd.R_below q5_13 hb); have n6_ := Aside0.mk (blk_below (g := gb202) (o := .cells #[.int .i64 t196, .int .i64 t197, .slice Ao62 t198.length co62] 51 (0, 0)) q5_8 hb); have n7_ := Aside0.mk (below_step q5_2 hb); have n8_ := Aside0.mk (hbox); have n9_ := Aside0.mk ((by rw [hg]; exact (below_size q5_2) : w.heap.size ≤ gb212)); have n10_ := Aside0.mk ((by rw [hg]; exact (below_size q5_2) : w.heap.size ≤ gb212)); have n11_ := Aside0.mk ((by rw [hg]; exact Nat.ne_of_lt (blk_lt (g := gb202) (o := .cells #[.int .i64 t196, .int .i64 t197, .slice Ao62 t198.length co62] 51 (0, 0)) q5_8) : gb202 ≠ gb212)); have n12_ := Aside0.mk ((by rw [hg]; exact Nat.ne_of_gt (blk_lt (g := gb202) (o := .cells #[.int .i64 t196, .int .i64 t197, .slice Ao62 t198.length co62] 51 (0, 0)) q5_8) : gb212 ≠ gb202)); clear HO188; clear HO191; clear HO195; clear HO200; clear HO205; clear HO210; clear BK202; clear HB; have HO188 := n0_; have HO191 := n1_; have HO195 := n2_; have HO200 := n3_; have HO205 := n4_; have HO210 := n5_; have BK202 := n6_; have HB := n7_; have BK212 := n8_; have GW212 := n9_; have GE212 := n10_; have NB202_212 := n11_; have NB212_202 := n12_; clear n0_ n1_ n2_ n3_ n4_ n5_ n6_ n7_ n8_ n9_ n10_ n11_ n12_; clear hb hbox hg; have hnb68 := NB212_202.out; have hnc68 := NB202_212.out; have hcz69_0 : w67.cell? ⟨gb212, 0, none⟩ = some (.int .i64 0) := (blk_cell BK212.out 0).trans rfl; have hcz69_1 : w67.cell? ⟨gb212, 1, none⟩ = some (.int .i64 0) := (blk_cell BK212.out 1).trans rfl; have hcz69_2 : w67.cell? ⟨gb212, 2, none⟩ = some (.slice none 0 0) := (blk_cell BK212.out 2).trans rfl; have hfz69_0 := blk_frozen BK212.out 0; have hfz69_1 := blk_frozen BK212.out 1; have hfz69_2 := blk_frozen BK212.out 2; obtain ⟨Ao70, co70, eo70⟩ := Kd.R_slice HO210.out; subst eo70; have hcz71_0 : w67.cell? ⟨gb202, 0, none⟩ = some (.int .i64 t196) := (blk_cell BK202.out 0).trans rfl; have hcz71_1 : w67.cell? ⟨gb202, 1, none⟩ = some (.int .i64 t197) := (blk_cell BK202.out 1).trans rfl; have hcz71_2 : w67.cell? ⟨gb202, 2, none⟩ = some (.slice Ao62 t198.length co62) := (blk_cell BK202.out 2).trans rfl; have hfz71_0 := blk_frozen BK202.out 0; have hfz71_1 := blk_frozen BK202.out 1; have hfz71_2 := blk_frozen BK202.out 2))
              go_ret
              exact ⟨by first | rfl | (simp [errW_none, errW_some] <;> rfl) | (simp [*, errW_none, errW_some] <;> rfl), by repeat (first | (with_reducible first | exact HB.out | apply below_alloc | apply pw_below_drewN | apply below_drew1 | refine below_set ?_ GE202.out | refine below_set ?_ GE212.out) | exact HB.out)⟩
          · rw [if_neg c9] at H
            have c9b0 : (t196 == 1) = false := beq_eq_false_iff_ne.mpr c9
            have c9b1 : (t196 != 1) = true := bne_iff_ne.mpr c9
            obtain rfl := Option.some.inj H
            go_enter Try.func29, Try.ntmps29
            go_wp2_with (first | ((with_reducible refine gate_dst (N := 8) rfl ?_); (try (refine gate_guard (by rfl) ?_; dsimp only)); refine Kd.R_lit (Kd.int .u8) _ 5 ?hg (N := 8) ?hd (xs := ([3] : List Int)) (inner := [.int .u8 3]) (ok := fun _ => True) (okp := fun _ => True) ?hr ?hp (fun _ hk => hk) trivial (Below.refl _ _) (Nat.le_refl _) (by simp) ?_; (case hd => rfl); (case hg => rfl); (case hr => first | (go_simp; done) | (go_simp; rfl)); (case hp => exact (Reps.one (show Kd.M (Kd.int .u8) _ _ _ 3 [.int .u8 3] from rfl) (Reps.none _ _))); intro v187 w72 ho73 hb hg_ hnew_; clear hg_ hnew_; (first | rw [← Ny186.out] at ho73 | (simp only [Int.reduceToNat] at ho73; rw [← Ny186.out] at ho73)); have n0_ := Aside0.mk (Kd.R_lower ho73 (below_size q5_1)); have n1_ := Aside0.mk (below_step q5_1 hb); clear HB; have HO188 := n0_; have HB := n1_; clear n0_ n1_; clear hb ho73; obtain ⟨Ao74, co74, eo74⟩ := Kd.R_slice HO188.out; subst eo74) | ((with_reducible refine gate_callee (f := 30) rfl ?_); refine goesL_ (some 10) rfl rfl Try.func30 q5_43 rfl #[.agg #[.int .i64 1, .int .i64 2, .slice Ao74 y186.length co74]] rfl q5_5 ?_; (with_reducible refine (record_Make.calls k 1 2 _ _ y186 t189 t192 _ ?side1 ?side2 A1.out).mono ?_); (case side1 => repeat (first | exact (Kd.R_reads' HO188.out).2.2 | (with_reducible refine Kd.C_alloc ?_ _) | (with_reducible refine Kd.C_drewN ?_ _) | (with_reducible refine Kd.C_drew ?_))); (case side2 => exact (Kd.R_reads' HO188.out).2.1); rintro e w75 ⟨v190, rfl, ho0, hb⟩; refine ⟨_, rfl, ?_⟩; have n0_ := Aside0.mk (Kd.R_elder' q5_3 (Kd.R_base ho0) hb); have n1_ := Aside0.mk (Kd.R_lower (Kd.R_new' ho0 (Kd.R_lt q5_3)) (below_size q5_1)); have n2_ := Aside0.mk (below_step q5_1 hb); clear HO188; clear HB; have HO188 := n0_; have HO191 := n1_; have HB := n2_; clear n0_ n1_ n2_; (try clear hb); (try clear hb2); (try clear hk); (try clear hi); (try clear ho0); obtain ⟨Ao76, co76, eo76⟩ := Kd.R_slice HO191.out; subst eo76) | ((with_reducible refine gate_callee (f := 33) rfl ?_); refine goesL_ (some 15) rfl rfl Try.func33 q5_43 rfl #[.slice Ao76 t189.length co76, .bool true] rfl q5_5 ?_; (with_reducible refine (record_Marked.calls _ _ t189 true t193 _ ?side1 ?side2 A2.out).mono ?_); (case side1 => repeat (first | exact (Kd.R_reads' HO191.out).2.2 | (with_reducible refine Kd.C_alloc ?_ _) | (with_reducible refine Kd.C_drewN ?_ _) | (with_reducible refine Kd.C_drew ?_))); (case side2 => exact (Kd.R_reads' HO191.out).2.1); rintro e w77 ⟨v194, rfl, ho0, hb⟩; refine ⟨_, rfl, ?_⟩; have n0_ := Aside0.mk (Kd.R_elder' q5_3 (Kd.R_base ho0) hb); have n1_ := Aside0.mk (Kd.R_elder' q5_4 (Kd.R_base ho0) hb); have n2_ := Aside0.mk (Kd.R_lower (Kd.R_new' (Kd.R_new' ho0 (Kd.R_lt q5_3)) (Kd.R_lt q5_4)) (below_size q5_1)); have n3_ := Aside0.mk (below_step q5_1 hb); clear HO188; clear HO191; clear HB; have HO188 := n0_; have HO191 := n1_; have HO195 := n2_; have HB := n3_; clear n0_ n1_ n2_ n3_; (try clear hb); (try clear hb2); (try clear hk); (try clear hi); (try clear ho0); obtain ⟨Ao78, co78, eo78⟩ := Kd.R_slice HO195.out; subst eo78) | ((with_reducible refine gate_callee (f := 32) rfl ?_); refine goesL_ (some 16) rfl rfl Try.func32 q5_43 rfl #[.slice Ao78 t193.length co78] rfl q5_5 ?_; (with_reducible refine (record_Read.calls k _ _ t193 t196 t197 t198 t201 _ ?side1 ?side2 A3.out).mono ?_); (case side1 => repeat (first | exact (Kd.R_reads' HO195.out).2.2 | (with_reducible refine Kd.C_alloc ?_ _) | (with_reducible refine Kd.C_drewN ?_ _) | (with_reducible refine Kd.C_drew ?_))); (case side2 => exact (Kd.R_reads' HO195.out).2.1); rintro e w79 ⟨v199, rfl, ho0, hb⟩; refine ⟨_, rfl, ?_⟩; have n0_ := Aside0.mk (Kd.R_elder' q5_3 (Kd.R_base ho0) hb); have n1_ := Aside0.mk (Kd.R_elder' q5_4 (Kd.R_base ho0) hb); have n2_ := Aside0.mk (Kd.R_elder' q5_6 (Kd.R_base ho0) hb); have n3_ := Aside0.mk (Kd.R_lower (Kd.R_new' (Kd.R_new' (Kd.R_new' ho0 (Kd.R_lt q5_3)) (Kd.R_lt q5_4)) (Kd.R_lt q5_6)) (below_size q5_1)); have n4_ := Aside0.mk (below_step q5_1 hb); clear HO188; clear HO191; clear HO195; clear HB; have HO188 := n0_; have HO191 := n1_; have HO195 := n2_; have HO200 := n3_; have HB := n4_; clear n0_ n1_ n2_ n3_ n4_; (try clear hb); (try clear hb2); (try clear hk); (try clear hi); (try clear ho0)) | ((with_reducible refine gate_dst (N := 3) rfl ?_); (try (refine gate_guard (by rfl) ?_; dsimp only)); refine box_event ?hg (N := 3) ?hd (cs := #[.int .i64 0, .int .i64 0, .slice none 0 0]) (t := 51) ?hr ?_; (case hd => rfl); (case hg => rfl); (case hr => first | (go_simp; done) | (go_simp; rfl)); intro gb202 hg w80 hbox hb; have n0_ := Aside0.mk (Kd.R_below q5_3 hb); have n1_ := Aside0.mk (Kd.R_below q5_4 hb); have n2_ := Aside0.mk (Kd.R_below q5_6 hb); have n3_ := Aside0.mk (Kd.R_below q5_9 hb); have n4_ := Aside0.mk (below_step q5_1 hb); have n5_ := Aside0.mk (hbox); have n6_ := Aside0.mk ((by rw [hg]; exact (below_size q5_1) : w.heap.size ≤ gb202)); have n7_ := Aside0.mk ((by rw [hg]; exact (below_size q5_1) : w.heap.size ≤ gb202)); clear HO188; clear HO191; clear HO195; clear HO200; clear HB; have HO188 := n0_; have HO191 := n1_; have HO195 := n2_; have HO200 := n3_; have HB := n4_; have BK202 := n5_; have GW202 := n6_; have GE202 := n7_; clear n0_ n1_ n2_ n3_ n4_ n5_ n6_ n7_; clear hb hbox hg; have hcz81_0 : w80.cell? ⟨gb202, 0, none⟩ = some (.int .i64 0) := (blk_cell BK202.out 0).trans rfl; have hcz81_1 : w80.cell? ⟨gb202, 1, none⟩ = some (.int .i64 0) := (blk_cell BK202.out 1).trans rfl; have hcz81_2 : w80.cell? ⟨gb202, 2, none⟩ = some (.slice none 0 0) := (blk_cell BK202.out 2).trans rfl; have hfz81_0 := blk_frozen BK202.out 0; have hfz81_1 := blk_frozen BK202.out 1; have hfz81_2 := blk_frozen BK202.out 2; obtain ⟨Ao82, co82, eo82⟩ := Kd.R_slice HO200.out; subst eo82) | ((with_reducible refine gate_dst (N := 20) rfl ?_); (try (refine gate_guard (by rfl) ?_; dsimp only)); refine Kd.R_make (Kd.int .u8) _ 5 rfl (N := 20) rfl 27 _ _ rfl 256 rfl rfl Try.underlying27 (.int .u8 0) 1 info5 rfl q5_14 q5_45 0 (ok := fun _ => True) (okp := fun _ => True) rfl (fun _ hk => hk) trivial q5_45 q5_45 (Below.refl _ _) (Nat.le_refl _) ?_; intro v204 w83 ho84 hb hg_ hnew_; clear hg_ hnew_; (first | rw [← Ny203.out] at ho84 | (simp only [Int.reduceToNat] at ho84; rw [← Ny203.out] at ho84)); have n0_ := Aside0.mk (Kd.R_elder' q5_39 (Kd.R_base ho84) hb); have n1_ := Aside0.mk (Kd.R_elder' q5_35 (Kd.R_base ho84) hb); have n2_ := Aside0.mk (Kd.R_elder' q5_31 (Kd.R_base ho84) hb); have n3_ := Aside0.mk (Kd.R_elder' q5_27 (Kd.R_base ho84) hb); have n4_ := Aside0.mk (Kd.R_lower (Kd.R_new' (Kd.R_new' (Kd.R_new' (Kd.R_new' ho84 (Kd.R_lt q5_39)) (Kd.R_lt q5_35)) (Kd.R_lt q5_31)) (Kd.R_lt q5_27)) (below_size q5_2)); have n5_ := Aside0.mk (blk_below (g := gb202) (o := .cells #[.int .i64 t196, .int .i64 t197, .slice Ao82 t198.length co82] 51 (0, 0)) q5_7 hb); have n6_ := Aside0.mk (below_step q5_2 hb); clear HO188; clear HO191; clear HO195; clear HO200; clear BK202; clear HB; have HO188 := n0_; have HO191 := n1_; have HO195 := n2_; have HO200 := n3_; have HO205 := n4_; have BK202 := n5_; have HB := n6_; clear n0_ n1_ n2_ n3_ n4_ n5_ n6_; clear hb ho84; obtain ⟨Ao85, co85, eo85⟩ := Kd.R_slice HO205.out; subst eo85) | ((with_reducible refine gate_callee (f := 32) rfl ?_); refine goesL_ (some 21) rfl rfl Try.func32 q5_43 rfl #[.slice Ao85 y203.length co85] rfl q5_5 ?_; (with_reducible refine (record_Read.calls k _ _ y203 t206 t207 t208 t211 _ ?side1 ?side2 A5.out).mono ?_); (case side1 => repeat (first | exact (Kd.R_reads' HO205.out).2.2 | (with_reducible refine Kd.C_alloc ?_ _) | (with_reducible refine Kd.C_drewN ?_ _) | (with_reducible refine Kd.C_drew ?_))); (case side2 => exact (Kd.R_reads' HO205.out).2.1); rintro e w86 ⟨v209, rfl, ho0, hb⟩; refine ⟨_, rfl, ?_⟩; have n0_ := Aside0.mk (Kd.R_elder' q5_3 (Kd.R_base ho0) hb); have n1_ := Aside0.mk (Kd.R_elder' q5_4 (Kd.R_base ho0) hb); have n2_ := Aside0.mk (Kd.R_elder' q5_6 (Kd.R_base ho0) hb); have n3_ := Aside0.mk (Kd.R_elder' q5_9 (Kd.R_base ho0) hb); have n4_ := Aside0.mk (Kd.R_elder' q5_10 (Kd.R_base ho0) hb); have n5_ := Aside0.mk (Kd.R_lower (Kd.R_new' (Kd.R_new' (Kd.R_new' (Kd.R_new' (Kd.R_new' ho0 (Kd.R_lt q5_3)) (Kd.R_lt q5_4)) (Kd.R_lt q5_6)) (Kd.R_lt q5_9)) (Kd.R_lt q5_10)) (below_size q5_2)); have n6_ := Aside0.mk (blk_below (g := gb202) (o := .cells #[.int .i64 t196, .int .i64 t197, .slice Ao82 t198.length co82] 51 (0, 0)) q5_8 hb); have n7_ := Aside0.mk (below_step q5_2 hb); clear HO188; clear HO191; clear HO195; clear HO200; clear HO205; clear BK202; clear HB; have HO188 := n0_; have HO191 := n1_; have HO195 := n2_; have HO200 := n3_; have HO205 := n4_; have HO210 := n5_; have BK202 := n6_; have HB := n7_; clear n0_ n1_ n2_ n3_ n4_ n5_ n6_ n7_; (try clear hb); (try clear hb2); (try clear hk); (try clear hi); (try clear ho0)) | ((with_reducible refine gate_dst (N := 5) rfl ?_); (try (refine gate_guard (by rfl) ?_; dsimp only)); refine box_event ?hg (N := 5) ?hd (cs := #[.int .i64 0, .int .i64 0, .slice none 0 0]) (t := 51) ?hr ?_; (case hd => rfl); (case hg => rfl); (case hr => first | (go_simp; done) | (go_simp; rfl)); intro gb212 hg w87 hbox hb; have n0_ := Aside0.mk (Kd.R_below q5_3 hb); have n1_ := Aside0.mk (Kd.R_below q5_4 hb); have n2_ := Aside0.mk (Kd.R_below q5_6 hb); have n3_ := Aside0.mk (Kd.R_below q5_9 hb); have n4_ := Aside0.mk (Kd.R_below q5_10 hb); have n5_ := Aside0.mk (Kd.R_below q5_13 hb); have n6_ := Aside0.mk (blk_below (g := gb202) (o := .cells #[.int .i64 t196, .int .i64 t197, .slice Ao82 t198.length co82] 51 (0, 0)) q5_8 hb); have n7_ := Aside0.mk (below_step q5_2 hb); have n8_ := Aside0.mk (hbox); have n9_ := Aside0.mk ((by rw [hg]; exact (below_size q5_2) : w.heap.size ≤ gb212)); have n10_ := Aside0.mk ((by rw [hg]; exact (below_size q5_2) : w.heap.size ≤ gb212)); have n11_ := Aside0.mk ((by rw [hg]; exact Nat.ne_of_lt (blk_lt (g := gb202) (o := .cells #[.int .i64 t196, .int .i64 t197, .slice Ao82 t198.length co82] 51 (0, 0)) q5_8) : gb202 ≠ gb212)); have n12_ := Aside0.mk ((by rw [hg]; exact Nat.ne_of_gt (blk_lt (g := gb202) (o := .cells #[.int .i64 t196, .int .i64 t197, .slice Ao82 t198.length co82] 51 (0, 0)) q5_8) : gb212 ≠ gb202)); clear HO188; clear HO191; clear HO195; clear HO200; clear HO205; clear HO210; clear BK202; clear HB; have HO188 := n0_; have HO191 := n1_; have HO195 := n2_; have HO200 := n3_; have HO205 := n4_; have HO210 := n5_; have BK202 := n6_; have HB := n7_; have BK212 := n8_; have GW212 := n9_; have GE212 := n10_; have NB202_212 := n11_; have NB212_202 := n12_; clear n0_ n1_ n2_ n3_ n4_ n5_ n6_ n7_ n8_ n9_ n10_ n11_ n12_; clear hb hbox hg; have hnb88 := NB212_202.out; have hnc88 := NB202_212.out; have hcz89_0 : w87.cell? ⟨gb212, 0, none⟩ = some (.int .i64 0) := (blk_cell BK212.out 0).trans rfl; have hcz89_1 : w87.cell? ⟨gb212, 1, none⟩ = some (.int .i64 0) := (blk_cell BK212.out 1).trans rfl; have hcz89_2 : w87.cell? ⟨gb212, 2, none⟩ = some (.slice none 0 0) := (blk_cell BK212.out 2).trans rfl; have hfz89_0 := blk_frozen BK212.out 0; have hfz89_1 := blk_frozen BK212.out 1; have hfz89_2 := blk_frozen BK212.out 2; obtain ⟨Ao90, co90, eo90⟩ := Kd.R_slice HO210.out; subst eo90; have hcz91_0 : w87.cell? ⟨gb202, 0, none⟩ = some (.int .i64 t196) := (blk_cell BK202.out 0).trans rfl; have hcz91_1 : w87.cell? ⟨gb202, 1, none⟩ = some (.int .i64 t197) := (blk_cell BK202.out 1).trans rfl; have hcz91_2 : w87.cell? ⟨gb202, 2, none⟩ = some (.slice Ao82 t198.length co82) := (blk_cell BK202.out 2).trans rfl; have hfz91_0 := blk_frozen BK202.out 0; have hfz91_1 := blk_frozen BK202.out 1; have hfz91_2 := blk_frozen BK202.out 2))
            go_ret
            exact ⟨by first | rfl | (simp [errW_none, errW_some] <;> rfl) | (simp [*, errW_none, errW_some] <;> rfl), by repeat (first | (with_reducible first | exact HB.out | apply below_alloc | apply pw_below_drewN | apply below_drew1 | refine below_set ?_ GE202.out | refine below_set ?_ GE212.out) | exact HB.out)⟩
        · rw [if_neg c8] at H
          have c8b0 : (t211 == 3) = false := beq_eq_false_iff_ne.mpr c8
          have c8b1 : (t211 != 3) = true := bne_iff_ne.mpr c8
          obtain rfl := Option.some.inj H
          go_enter Try.func29, Try.ntmps29
          go_wp2_with (first | ((with_reducible refine gate_dst (N := 8) rfl ?_); (try (refine gate_guard (by rfl) ?_; dsimp only)); refine Kd.R_lit (Kd.int .u8) _ 5 ?hg (N := 8) ?hd (xs := ([3] : List Int)) (inner := [.int .u8 3]) (ok := fun _ => True) (okp := fun _ => True) ?hr ?hp (fun _ hk => hk) trivial (Below.refl _ _) (Nat.le_refl _) (by simp) ?_; (case hd => rfl); (case hg => rfl); (case hr => first | (go_simp; done) | (go_simp; rfl)); (case hp => exact (Reps.one (show Kd.M (Kd.int .u8) _ _ _ 3 [.int .u8 3] from rfl) (Reps.none _ _))); intro v187 w92 ho93 hb hg_ hnew_; clear hg_ hnew_; (first | rw [← Ny186.out] at ho93 | (simp only [Int.reduceToNat] at ho93; rw [← Ny186.out] at ho93)); have n0_ := Aside0.mk (Kd.R_lower ho93 (below_size q5_1)); have n1_ := Aside0.mk (below_step q5_1 hb); clear HB; have HO188 := n0_; have HB := n1_; clear n0_ n1_; clear hb ho93; obtain ⟨Ao94, co94, eo94⟩ := Kd.R_slice HO188.out; subst eo94) | ((with_reducible refine gate_callee (f := 30) rfl ?_); refine goesL_ (some 10) rfl rfl Try.func30 q5_43 rfl #[.agg #[.int .i64 1, .int .i64 2, .slice Ao94 y186.length co94]] rfl q5_5 ?_; (with_reducible refine (record_Make.calls k 1 2 _ _ y186 t189 t192 _ ?side1 ?side2 A1.out).mono ?_); (case side1 => repeat (first | exact (Kd.R_reads' HO188.out).2.2 | (with_reducible refine Kd.C_alloc ?_ _) | (with_reducible refine Kd.C_drewN ?_ _) | (with_reducible refine Kd.C_drew ?_))); (case side2 => exact (Kd.R_reads' HO188.out).2.1); rintro e w95 ⟨v190, rfl, ho0, hb⟩; refine ⟨_, rfl, ?_⟩; have n0_ := Aside0.mk (Kd.R_elder' q5_3 (Kd.R_base ho0) hb); have n1_ := Aside0.mk (Kd.R_lower (Kd.R_new' ho0 (Kd.R_lt q5_3)) (below_size q5_1)); have n2_ := Aside0.mk (below_step q5_1 hb); clear HO188; clear HB; have HO188 := n0_; have HO191 := n1_; have HB := n2_; clear n0_ n1_ n2_; (try clear hb); (try clear hb2); (try clear hk); (try clear hi); (try clear ho0); obtain ⟨Ao96, co96, eo96⟩ := Kd.R_slice HO191.out; subst eo96) | ((with_reducible refine gate_callee (f := 33) rfl ?_); refine goesL_ (some 15) rfl rfl Try.func33 q5_43 rfl #[.slice Ao96 t189.length co96, .bool true] rfl q5_5 ?_; (with_reducible refine (record_Marked.calls _ _ t189 true t193 _ ?side1 ?side2 A2.out).mono ?_); (case side1 => repeat (first | exact (Kd.R_reads' HO191.out).2.2 | (with_reducible refine Kd.C_alloc ?_ _) | (with_reducible refine Kd.C_drewN ?_ _) | (with_reducible refine Kd.C_drew ?_))); (case side2 => exact (Kd.R_reads' HO191.out).2.1); rintro e w97 ⟨v194, rfl, ho0, hb⟩; refine ⟨_, rfl, ?_⟩; have n0_ := Aside0.mk (Kd.R_elder' q5_3 (Kd.R_base ho0) hb); have n1_ := Aside0.mk (Kd.R_elder' q5_4 (Kd.R_base ho0) hb); have n2_ := Aside0.mk (Kd.R_lower (Kd.R_new' (Kd.R_new' ho0 (Kd.R_lt q5_3)) (Kd.R_lt q5_4)) (below_size q5_1)); have n3_ := Aside0.mk (below_step q5_1 hb); clear HO188; clear HO191; clear HB; have HO188 := n0_; have HO191 := n1_; have HO195 := n2_; have HB := n3_; clear n0_ n1_ n2_ n3_; (try clear hb); (try clear hb2); (try clear hk); (try clear hi); (try clear ho0); obtain ⟨Ao98, co98, eo98⟩ := Kd.R_slice HO195.out; subst eo98) | ((with_reducible refine gate_callee (f := 32) rfl ?_); refine goesL_ (some 16) rfl rfl Try.func32 q5_43 rfl #[.slice Ao98 t193.length co98] rfl q5_5 ?_; (with_reducible refine (record_Read.calls k _ _ t193 t196 t197 t198 t201 _ ?side1 ?side2 A3.out).mono ?_); (case side1 => repeat (first | exact (Kd.R_reads' HO195.out).2.2 | (with_reducible refine Kd.C_alloc ?_ _) | (with_reducible refine Kd.C_drewN ?_ _) | (with_reducible refine Kd.C_drew ?_))); (case side2 => exact (Kd.R_reads' HO195.out).2.1); rintro e w99 ⟨v199, rfl, ho0, hb⟩; refine ⟨_, rfl, ?_⟩; have n0_ := Aside0.mk (Kd.R_elder' q5_3 (Kd.R_base ho0) hb); have n1_ := Aside0.mk (Kd.R_elder' q5_4 (Kd.R_base ho0) hb); have n2_ := Aside0.mk (Kd.R_elder' q5_6 (Kd.R_base ho0) hb); have n3_ := Aside0.mk (Kd.R_lower (Kd.R_new' (Kd.R_new' (Kd.R_new' ho0 (Kd.R_lt q5_3)) (Kd.R_lt q5_4)) (Kd.R_lt q5_6)) (below_size q5_1)); have n4_ := Aside0.mk (below_step q5_1 hb); clear HO188; clear HO191; clear HO195; clear HB; have HO188 := n0_; have HO191 := n1_; have HO195 := n2_; have HO200 := n3_; have HB := n4_; clear n0_ n1_ n2_ n3_ n4_; (try clear hb); (try clear hb2); (try clear hk); (try clear hi); (try clear ho0)) | ((with_reducible refine gate_dst (N := 3) rfl ?_); (try (refine gate_guard (by rfl) ?_; dsimp only)); refine box_event ?hg (N := 3) ?hd (cs := #[.int .i64 0, .int .i64 0, .slice none 0 0]) (t := 51) ?hr ?_; (case hd => rfl); (case hg => rfl); (case hr => first | (go_simp; done) | (go_simp; rfl)); intro gb202 hg w100 hbox hb; have n0_ := Aside0.mk (Kd.R_below q5_3 hb); have n1_ := Aside0.mk (Kd.R_below q5_4 hb); have n2_ := Aside0.mk (Kd.R_below q5_6 hb); have n3_ := Aside0.mk (Kd.R_below q5_9 hb); have n4_ := Aside0.mk (below_step q5_1 hb); have n5_ := Aside0.mk (hbox); have n6_ := Aside0.mk ((by rw [hg]; exact (below_size q5_1) : w.heap.size ≤ gb202)); have n7_ := Aside0.mk ((by rw [hg]; exact (below_size q5_1) : w.heap.size ≤ gb202)); clear HO188; clear HO191; clear HO195; clear HO200; clear HB; have HO188 := n0_; have HO191 := n1_; have HO195 := n2_; have HO200 := n3_; have HB := n4_; have BK202 := n5_; have GW202 := n6_; have GE202 := n7_; clear n0_ n1_ n2_ n3_ n4_ n5_ n6_ n7_; clear hb hbox hg; have hcz101_0 : w100.cell? ⟨gb202, 0, none⟩ = some (.int .i64 0) := (blk_cell BK202.out 0).trans rfl; have hcz101_1 : w100.cell? ⟨gb202, 1, none⟩ = some (.int .i64 0) := (blk_cell BK202.out 1).trans rfl; have hcz101_2 : w100.cell? ⟨gb202, 2, none⟩ = some (.slice none 0 0) := (blk_cell BK202.out 2).trans rfl; have hfz101_0 := blk_frozen BK202.out 0; have hfz101_1 := blk_frozen BK202.out 1; have hfz101_2 := blk_frozen BK202.out 2; obtain ⟨Ao102, co102, eo102⟩ := Kd.R_slice HO200.out; subst eo102) | ((with_reducible refine gate_dst (N := 20) rfl ?_); (try (refine gate_guard (by rfl) ?_; dsimp only)); refine Kd.R_make (Kd.int .u8) _ 5 rfl (N := 20) rfl 27 _ _ rfl 256 rfl rfl Try.underlying27 (.int .u8 0) 1 info5 rfl q5_14 q5_45 0 (ok := fun _ => True) (okp := fun _ => True) rfl (fun _ hk => hk) trivial q5_45 q5_45 (Below.refl _ _) (Nat.le_refl _) ?_; intro v204 w103 ho104 hb hg_ hnew_; clear hg_ hnew_; (first | rw [← Ny203.out] at ho104 | (simp only [Int.reduceToNat] at ho104; rw [← Ny203.out] at ho104)); have n0_ := Aside0.mk (Kd.R_elder' q5_26 (Kd.R_base ho104) hb); have n1_ := Aside0.mk (Kd.R_elder' q5_23 (Kd.R_base ho104) hb); have n2_ := Aside0.mk (Kd.R_elder' q5_20 (Kd.R_base ho104) hb); have n3_ := Aside0.mk (Kd.R_elder' q5_17 (Kd.R_base ho104) hb); have n4_ := Aside0.mk (Kd.R_lower (Kd.R_new' (Kd.R_new' (Kd.R_new' (Kd.R_new' ho104 (Kd.R_lt q5_26)) (Kd.R_lt q5_23)) (Kd.R_lt q5_20)) (Kd.R_lt q5_17)) (below_size q5_2)); have n5_ := Aside0.mk (blk_below (g := gb202) (o := .cells #[.int .i64 t196, .int .i64 t197, .slice Ao102 t198.length co102] 51 (0, 0)) q5_7 hb); have n6_ := Aside0.mk (below_step q5_2 hb); clear HO188; clear HO191; clear HO195; clear HO200; clear BK202; clear HB; have HO188 := n0_; have HO191 := n1_; have HO195 := n2_; have HO200 := n3_; have HO205 := n4_; have BK202 := n5_; have HB := n6_; clear n0_ n1_ n2_ n3_ n4_ n5_ n6_; clear hb ho104; obtain ⟨Ao105, co105, eo105⟩ := Kd.R_slice HO205.out; subst eo105) | ((with_reducible refine gate_callee (f := 32) rfl ?_); refine goesL_ (some 21) rfl rfl Try.func32 q5_43 rfl #[.slice Ao105 y203.length co105] rfl q5_5 ?_; (with_reducible refine (record_Read.calls k _ _ y203 t206 t207 t208 t211 _ ?side1 ?side2 A5.out).mono ?_); (case side1 => repeat (first | exact (Kd.R_reads' HO205.out).2.2 | (with_reducible refine Kd.C_alloc ?_ _) | (with_reducible refine Kd.C_drewN ?_ _) | (with_reducible refine Kd.C_drew ?_))); (case side2 => exact (Kd.R_reads' HO205.out).2.1); rintro e w106 ⟨v209, rfl, ho0, hb⟩; refine ⟨_, rfl, ?_⟩; have n0_ := Aside0.mk (Kd.R_elder' q5_3 (Kd.R_base ho0) hb); have n1_ := Aside0.mk (Kd.R_elder' q5_4 (Kd.R_base ho0) hb); have n2_ := Aside0.mk (Kd.R_elder' q5_6 (Kd.R_base ho0) hb); have n3_ := Aside0.mk (Kd.R_elder' q5_9 (Kd.R_base ho0) hb); have n4_ := Aside0.mk (Kd.R_elder' q5_10 (Kd.R_base ho0) hb); have n5_ := Aside0.mk (Kd.R_lower (Kd.R_new' (Kd.R_new' (Kd.R_new' (Kd.R_new' (Kd.R_new' ho0 (Kd.R_lt q5_3)) (Kd.R_lt q5_4)) (Kd.R_lt q5_6)) (Kd.R_lt q5_9)) (Kd.R_lt q5_10)) (below_size q5_2)); have n6_ := Aside0.mk (blk_below (g := gb202) (o := .cells #[.int .i64 t196, .int .i64 t197, .slice Ao102 t198.length co102] 51 (0, 0)) q5_8 hb); have n7_ := Aside0.mk (below_step q5_2 hb); clear HO188; clear HO191; clear HO195; clear HO200; clear HO205; clear BK202; clear HB; have HO188 := n0_; have HO191 := n1_; have HO195 := n2_; have HO200 := n3_; have HO205 := n4_; have HO210 := n5_; have BK202 := n6_; have HB := n7_; clear n0_ n1_ n2_ n3_ n4_ n5_ n6_ n7_; (try clear hb); (try clear hb2); (try clear hk); (try clear hi); (try clear ho0)) | ((with_reducible refine gate_dst (N := 5) rfl ?_); (try (refine gate_guard (by rfl) ?_; dsimp only)); refine box_event ?hg (N := 5) ?hd (cs := #[.int .i64 0, .int .i64 0, .slice none 0 0]) (t := 51) ?hr ?_; (case hd => rfl); (case hg => rfl); (case hr => first | (go_simp; done) | (go_simp; rfl)); intro gb212 hg w107 hbox hb; have n0_ := Aside0.mk (Kd.R_below q5_3 hb); have n1_ := Aside0.mk (Kd.R_below q5_4 hb); have n2_ := Aside0.mk (Kd.R_below q5_6 hb); have n3_ := Aside0.mk (Kd.R_below q5_9 hb); have n4_ := Aside0.mk (Kd.R_below q5_10 hb); have n5_ := Aside0.mk (Kd.R_below q5_13 hb); have n6_ := Aside0.mk (blk_below (g := gb202) (o := .cells #[.int .i64 t196, .int .i64 t197, .slice Ao102 t198.length co102] 51 (0, 0)) q5_8 hb); have n7_ := Aside0.mk (below_step q5_2 hb); have n8_ := Aside0.mk (hbox); have n9_ := Aside0.mk ((by rw [hg]; exact (below_size q5_2) : w.heap.size ≤ gb212)); have n10_ := Aside0.mk ((by rw [hg]; exact (below_size q5_2) : w.heap.size ≤ gb212)); have n11_ := Aside0.mk ((by rw [hg]; exact Nat.ne_of_lt (blk_lt (g := gb202) (o := .cells #[.int .i64 t196, .int .i64 t197, .slice Ao102 t198.length co102] 51 (0, 0)) q5_8) : gb202 ≠ gb212)); have n12_ := Aside0.mk ((by rw [hg]; exact Nat.ne_of_gt (blk_lt (g := gb202) (o := .cells #[.int .i64 t196, .int .i64 t197, .slice Ao102 t198.length co102] 51 (0, 0)) q5_8) : gb212 ≠ gb202)); clear HO188; clear HO191; clear HO195; clear HO200; clear HO205; clear HO210; clear BK202; clear HB; have HO188 := n0_; have HO191 := n1_; have HO195 := n2_; have HO200 := n3_; have HO205 := n4_; have HO210 := n5_; have BK202 := n6_; have HB := n7_; have BK212 := n8_; have GW212 := n9_; have GE212 := n10_; have NB202_212 := n11_; have NB212_202 := n12_; clear n0_ n1_ n2_ n3_ n4_ n5_ n6_ n7_ n8_ n9_ n10_ n11_ n12_; clear hb hbox hg; have hnb108 := NB212_202.out; have hnc108 := NB202_212.out; have hcz109_0 : w107.cell? ⟨gb212, 0, none⟩ = some (.int .i64 0) := (blk_cell BK212.out 0).trans rfl; have hcz109_1 : w107.cell? ⟨gb212, 1, none⟩ = some (.int .i64 0) := (blk_cell BK212.out 1).trans rfl; have hcz109_2 : w107.cell? ⟨gb212, 2, none⟩ = some (.slice none 0 0) := (blk_cell BK212.out 2).trans rfl; have hfz109_0 := blk_frozen BK212.out 0; have hfz109_1 := blk_frozen BK212.out 1; have hfz109_2 := blk_frozen BK212.out 2; obtain ⟨Ao110, co110, eo110⟩ := Kd.R_slice HO210.out; subst eo110))
          go_ret
          exact ⟨by first | rfl | (simp [errW_none, errW_some] <;> rfl) | (simp [*, errW_none, errW_some] <;> rfl), by repeat (first | (with_reducible first | exact HB.out | apply below_alloc | apply pw_below_drewN | apply below_drew1 | refine below_set ?_ GE202.out | refine below_set ?_ GE212.out) | exact HB.out)⟩
      · rw [if_neg c7] at H
        have c7b0 : (t201 == 0) = false := beq_eq_false_iff_ne.mpr c7
        have c7b1 : (t201 != 0) = true := bne_iff_ne.mpr c7
        obtain rfl := Option.some.inj H
        go_enter Try.func29, Try.ntmps29
        go_wp2_with (first | ((with_reducible refine gate_dst (N := 8) rfl ?_); (try (refine gate_guard (by rfl) ?_; dsimp only)); refine Kd.R_lit (Kd.int .u8) _ 5 ?hg (N := 8) ?hd (xs := ([3] : List Int)) (inner := [.int .u8 3]) (ok := fun _ => True) (okp := fun _ => True) ?hr ?hp (fun _ hk => hk) trivial (Below.refl _ _) (Nat.le_refl _) (by simp) ?_; (case hd => rfl); (case hg => rfl); (case hr => first | (go_simp; done) | (go_simp; rfl)); (case hp => exact (Reps.one (show Kd.M (Kd.int .u8) _ _ _ 3 [.int .u8 3] from rfl) (Reps.none _ _))); intro v187 w111 ho112 hb hg_ hnew_; clear hg_ hnew_; (first | rw [← Ny186.out] at ho112 | (simp only [Int.reduceToNat] at ho112; rw [← Ny186.out] at ho112)); have n0_ := Aside0.mk (Kd.R_lower ho112 (below_size q5_1)); have n1_ := Aside0.mk (below_step q5_1 hb); clear HB; have HO188 := n0_; have HB := n1_; clear n0_ n1_; clear hb ho112; obtain ⟨Ao113, co113, eo113⟩ := Kd.R_slice HO188.out; subst eo113) | ((with_reducible refine gate_callee (f := 30) rfl ?_); refine goesL_ (some 10) rfl rfl Try.func30 q5_43 rfl #[.agg #[.int .i64 1, .int .i64 2, .slice Ao113 y186.length co113]] rfl q5_5 ?_; (with_reducible refine (record_Make.calls k 1 2 _ _ y186 t189 t192 _ ?side1 ?side2 A1.out).mono ?_); (case side1 => repeat (first | exact (Kd.R_reads' HO188.out).2.2 | (with_reducible refine Kd.C_alloc ?_ _) | (with_reducible refine Kd.C_drewN ?_ _) | (with_reducible refine Kd.C_drew ?_))); (case side2 => exact (Kd.R_reads' HO188.out).2.1); rintro e w114 ⟨v190, rfl, ho0, hb⟩; refine ⟨_, rfl, ?_⟩; have n0_ := Aside0.mk (Kd.R_elder' q5_3 (Kd.R_base ho0) hb); have n1_ := Aside0.mk (Kd.R_lower (Kd.R_new' ho0 (Kd.R_lt q5_3)) (below_size q5_1)); have n2_ := Aside0.mk (below_step q5_1 hb); clear HO188; clear HB; have HO188 := n0_; have HO191 := n1_; have HB := n2_; clear n0_ n1_ n2_; (try clear hb); (try clear hb2); (try clear hk); (try clear hi); (try clear ho0); obtain ⟨Ao115, co115, eo115⟩ := Kd.R_slice HO191.out; subst eo115) | ((with_reducible refine gate_callee (f := 33) rfl ?_); refine goesL_ (some 15) rfl rfl Try.func33 q5_43 rfl #[.slice Ao115 t189.length co115, .bool true] rfl q5_5 ?_; (with_reducible refine (record_Marked.calls _ _ t189 true t193 _ ?side1 ?side2 A2.out).mono ?_); (case side1 => repeat (first | exact (Kd.R_reads' HO191.out).2.2 | (with_reducible refine Kd.C_alloc ?_ _) | (with_reducible refine Kd.C_drewN ?_ _) | (with_reducible refine Kd.C_drew ?_))); (case side2 => exact (Kd.R_reads' HO191.out).2.1); rintro e w116 ⟨v194, rfl, ho0, hb⟩; refine ⟨_, rfl, ?_⟩; have n0_ := Aside0.mk (Kd.R_elder' q5_3 (Kd.R_base ho0) hb); have n1_ := Aside0.mk (Kd.R_elder' q5_4 (Kd.R_base ho0) hb); have n2_ := Aside0.mk (Kd.R_lower (Kd.R_new' (Kd.R_new' ho0 (Kd.R_lt q5_3)) (Kd.R_lt q5_4)) (below_size q5_1)); have n3_ := Aside0.mk (below_step q5_1 hb); clear HO188; clear HO191; clear HB; have HO188 := n0_; have HO191 := n1_; have HO195 := n2_; have HB := n3_; clear n0_ n1_ n2_ n3_; (try clear hb); (try clear hb2); (try clear hk); (try clear hi); (try clear ho0); obtain ⟨Ao117, co117, eo117⟩ := Kd.R_slice HO195.out; subst eo117) | ((with_reducible refine gate_callee (f := 32) rfl ?_); refine goesL_ (some 16) rfl rfl Try.func32 q5_43 rfl #[.slice Ao117 t193.length co117] rfl q5_5 ?_; (with_reducible refine (record_Read.calls k _ _ t193 t196 t197 t198 t201 _ ?side1 ?side2 A3.out).mono ?_); (case side1 => repeat (first | exact (Kd.R_reads' HO195.out).2.2 | (with_reducible refine Kd.C_alloc ?_ _) | (with_reducible refine Kd.C_drewN ?_ _) | (with_reducible refine Kd.C_drew ?_))); (case side2 => exact (Kd.R_reads' HO195.out).2.1); rintro e w118 ⟨v199, rfl, ho0, hb⟩; refine ⟨_, rfl, ?_⟩; have n0_ := Aside0.mk (Kd.R_elder' q5_3 (Kd.R_base ho0) hb); have n1_ := Aside0.mk (Kd.R_elder' q5_4 (Kd.R_base ho0) hb); have n2_ := Aside0.mk (Kd.R_elder' q5_6 (Kd.R_base ho0) hb); have n3_ := Aside0.mk (Kd.R_lower (Kd.R_new' (Kd.R_new' (Kd.R_new' ho0 (Kd.R_lt q5_3)) (Kd.R_lt q5_4)) (Kd.R_lt q5_6)) (below_size q5_1)); have n4_ := Aside0.mk (below_step q5_1 hb); clear HO188; clear HO191; clear HO195; clear HB; have HO188 := n0_; have HO191 := n1_; have HO195 := n2_; have HO200 := n3_; have HB := n4_; clear n0_ n1_ n2_ n3_ n4_; (try clear hb); (try clear hb2); (try clear hk); (try clear hi); (try clear ho0)) | ((with_reducible refine gate_dst (N := 3) rfl ?_); (try (refine gate_guard (by rfl) ?_; dsimp only)); refine box_event ?hg (N := 3) ?hd (cs := #[.int .i64 0, .int .i64 0, .slice none 0 0]) (t := 51) ?hr ?_; (case hd => rfl); (case hg => rfl); (case hr => first | (go_simp; done) | (go_simp; rfl)); intro gb202 hg w119 hbox hb; have n0_ := Aside0.mk (Kd.R_below q5_3 hb); have n1_ := Aside0.mk (Kd.R_below q5_4 hb); have n2_ := Aside0.mk (Kd.R_below q5_6 hb); have n3_ := Aside0.mk (Kd.R_below q5_9 hb); have n4_ := Aside0.mk (below_step q5_1 hb); have n5_ := Aside0.mk (hbox); have n6_ := Aside0.mk ((by rw [hg]; exact (below_size q5_1) : w.heap.size ≤ gb202)); have n7_ := Aside0.mk ((by rw [hg]; exact (below_size q5_1) : w.heap.size ≤ gb202)); clear HO188; clear HO191; clear HO195; clear HO200; clear HB; have HO188 := n0_; have HO191 := n1_; have HO195 := n2_; have HO200 := n3_; have HB := n4_; have BK202 := n5_; have GW202 := n6_; have GE202 := n7_; clear n0_ n1_ n2_ n3_ n4_ n5_ n6_ n7_; clear hb hbox hg; have hcz120_0 : w119.cell? ⟨gb202, 0, none⟩ = some (.int .i64 0) := (blk_cell BK202.out 0).trans rfl; have hcz120_1 : w119.cell? ⟨gb202, 1, none⟩ = some (.int .i64 0) := (blk_cell BK202.out 1).trans rfl; have hcz120_2 : w119.cell? ⟨gb202, 2, none⟩ = some (.slice none 0 0) := (blk_cell BK202.out 2).trans rfl; have hfz120_0 := blk_frozen BK202.out 0; have hfz120_1 := blk_frozen BK202.out 1; have hfz120_2 := blk_frozen BK202.out 2; obtain ⟨Ao121, co121, eo121⟩ := Kd.R_slice HO200.out; subst eo121) | ((with_reducible refine gate_dst (N := 20) rfl ?_); (try (refine gate_guard (by rfl) ?_; dsimp only)); refine Kd.R_make (Kd.int .u8) _ 5 rfl (N := 20) rfl 27 _ _ rfl 256 rfl rfl Try.underlying27 (.int .u8 0) 1 info5 rfl q5_14 q5_45 0 (ok := fun _ => True) (okp := fun _ => True) rfl (fun _ hk => hk) trivial q5_45 q5_45 (Below.refl _ _) (Nat.le_refl _) ?_; intro v204 w122 ho123 hb hg_ hnew_; clear hg_ hnew_; (first | rw [← Ny203.out] at ho123 | (simp only [Int.reduceToNat] at ho123; rw [← Ny203.out] at ho123)); have n0_ := Aside0.mk (Kd.R_elder' q5_25 (Kd.R_base ho123) hb); have n1_ := Aside0.mk (Kd.R_elder' q5_22 (Kd.R_base ho123) hb); have n2_ := Aside0.mk (Kd.R_elder' q5_19 (Kd.R_base ho123) hb); have n3_ := Aside0.mk (Kd.R_elder' q5_16 (Kd.R_base ho123) hb); have n4_ := Aside0.mk (Kd.R_lower (Kd.R_new' (Kd.R_new' (Kd.R_new' (Kd.R_new' ho123 (Kd.R_lt q5_25)) (Kd.R_lt q5_22)) (Kd.R_lt q5_19)) (Kd.R_lt q5_16)) (below_size q5_2)); have n5_ := Aside0.mk (blk_below (g := gb202) (o := .cells #[.int .i64 t196, .int .i64 t197, .slice Ao121 t198.length co121] 51 (0, 0)) q5_7 hb); have n6_ := Aside0.mk (below_step q5_2 hb); clear HO188; clear HO191; clear HO195; clear HO200; clear BK202; clear HB; have HO188 := n0_; have HO191 := n1_; have HO195 := n2_; have HO200 := n3_; have HO205 := n4_; have BK202 := n5_; have HB := n6_; clear n0_ n1_ n2_ n3_ n4_ n5_ n6_; clear hb ho123; obtain ⟨Ao124, co124, eo124⟩ := Kd.R_slice HO205.out; subst eo124) | ((with_reducible refine gate_callee (f := 32) rfl ?_); refine goesL_ (some 21) rfl rfl Try.func32 q5_43 rfl #[.slice Ao124 y203.length co124] rfl q5_5 ?_; (with_reducible refine (record_Read.calls k _ _ y203 t206 t207 t208 t211 _ ?side1 ?side2 A5.out).mono ?_); (case side1 => repeat (first | exact (Kd.R_reads' HO205.out).2.2 | (with_reducible refine Kd.C_alloc ?_ _) | (with_reducible refine Kd.C_drewN ?_ _) | (with_reducible refine Kd.C_drew ?_))); (case side2 => exact (Kd.R_reads' HO205.out).2.1); rintro e w125 ⟨v209, rfl, ho0, hb⟩; refine ⟨_, rfl, ?_⟩; have n0_ := Aside0.mk (Kd.R_elder' q5_3 (Kd.R_base ho0) hb); have n1_ := Aside0.mk (Kd.R_elder' q5_4 (Kd.R_base ho0) hb); have n2_ := Aside0.mk (Kd.R_elder' q5_6 (Kd.R_base ho0) hb); have n3_ := Aside0.mk (Kd.R_elder' q5_9 (Kd.R_base ho0) hb); have n4_ := Aside0.mk (Kd.R_elder' q5_10 (Kd.R_base ho0) hb); have n5_ := Aside0.mk (Kd.R_lower (Kd.R_new' (Kd.R_new' (Kd.R_new' (Kd.R_new' (Kd.R_new' ho0 (Kd.R_lt q5_3)) (Kd.R_lt q5_4)) (Kd.R_lt q5_6)) (Kd.R_lt q5_9)) (Kd.R_lt q5_10)) (below_size q5_2)); have n6_ := Aside0.mk (blk_below (g := gb202) (o := .cells #[.int .i64 t196, .int .i64 t197, .slice Ao121 t198.length co121] 51 (0, 0)) q5_8 hb); have n7_ := Aside0.mk (below_step q5_2 hb); clear HO188; clear HO191; clear HO195; clear HO200; clear HO205; clear BK202; clear HB; have HO188 := n0_; have HO191 := n1_; have HO195 := n2_; have HO200 := n3_; have HO205 := n4_; have HO210 := n5_; have BK202 := n6_; have HB := n7_; clear n0_ n1_ n2_ n3_ n4_ n5_ n6_ n7_; (try clear hb); (try clear hb2); (try clear hk); (try clear hi); (try clear ho0)) | ((with_reducible refine gate_dst (N := 5) rfl ?_); (try (refine gate_guard (by rfl) ?_; dsimp only)); refine box_event ?hg (N := 5) ?hd (cs := #[.int .i64 0, .int .i64 0, .slice none 0 0]) (t := 51) ?hr ?_; (case hd => rfl); (case hg => rfl); (case hr => first | (go_simp; done) | (go_simp; rfl)); intro gb212 hg w126 hbox hb; have n0_ := Aside0.mk (Kd.R_below q5_3 hb); have n1_ := Aside0.mk (Kd.R_below q5_4 hb); have n2_ := Aside0.mk (Kd.R_below q5_6 hb); have n3_ := Aside0.mk (Kd.R_below q5_9 hb); have n4_ := Aside0.mk (Kd.R_below q5_10 hb); have n5_ := Aside0.mk (Kd.R_below q5_13 hb); have n6_ := Aside0.mk (blk_below (g := gb202) (o := .cells #[.int .i64 t196, .int .i64 t197, .slice Ao121 t198.length co121] 51 (0, 0)) q5_8 hb); have n7_ := Aside0.mk (below_step q5_2 hb); have n8_ := Aside0.mk (hbox); have n9_ := Aside0.mk ((by rw [hg]; exact (below_size q5_2) : w.heap.size ≤ gb212)); have n10_ := Aside0.mk ((by rw [hg]; exact (below_size q5_2) : w.heap.size ≤ gb212)); have n11_ := Aside0.mk ((by rw [hg]; exact Nat.ne_of_lt (blk_lt (g := gb202) (o := .cells #[.int .i64 t196, .int .i64 t197, .slice Ao121 t198.length co121] 51 (0, 0)) q5_8) : gb202 ≠ gb212)); have n12_ := Aside0.mk ((by rw [hg]; exact Nat.ne_of_gt (blk_lt (g := gb202) (o := .cells #[.int .i64 t196, .int .i64 t197, .slice Ao121 t198.length co121] 51 (0, 0)) q5_8) : gb212 ≠ gb202)); clear HO188; clear HO191; clear HO195; clear HO200; clear HO205; clear HO210; clear BK202; clear HB; have HO188 := n0_; have HO191 := n1_; have HO195 := n2_; have HO200 := n3_; have HO205 := n4_; have HO210 := n5_; have BK202 := n6_; have HB := n7_; have BK212 := n8_; have GW212 := n9_; have GE212 := n10_; have NB202_212 := n11_; have NB212_202 := n12_; clear n0_ n1_ n2_ n3_ n4_ n5_ n6_ n7_ n8_ n9_ n10_ n11_ n12_; clear hb hbox hg; have hnb127 := NB212_202.out; have hnc127 := NB202_212.out; have hcz128_0 : w126.cell? ⟨gb212, 0, none⟩ = some (.int .i64 0) := (blk_cell BK212.out 0).trans rfl; have hcz128_1 : w126.cell? ⟨gb212, 1, none⟩ = some (.int .i64 0) := (blk_cell BK212.out 1).trans rfl; have hcz128_2 : w126.cell? ⟨gb212, 2, none⟩ = some (.slice none 0 0) := (blk_cell BK212.out 2).trans rfl; have hfz128_0 := blk_frozen BK212.out 0; have hfz128_1 := blk_frozen BK212.out 1; have hfz128_2 := blk_frozen BK212.out 2; obtain ⟨Ao129, co129, eo129⟩ := Kd.R_slice HO210.out; subst eo129))
        go_ret
        exact ⟨by first | rfl | (simp [errW_none, errW_some] <;> rfl) | (simp [*, errW_none, errW_some] <;> rfl), by repeat (first | (with_reducible first | exact HB.out | apply below_alloc | apply pw_below_drewN | apply below_drew1 | refine below_set ?_ GE202.out | refine below_set ?_ GE212.out) | exact HB.out)⟩
    · rw [if_neg c6] at H
      have c6b0 : (t192 == 0) = false := beq_eq_false_iff_ne.mpr c6
      have c6b1 : (t192 != 0) = true := bne_iff_ne.mpr c6
      obtain rfl := Option.some.inj H
      go_enter Try.func29, Try.ntmps29
      go_wp2_with (first | ((with_reducible refine gate_dst (N := 8) rfl ?_); (try (refine gate_guard (by rfl) ?_; dsimp only)); refine Kd.R_lit (Kd.int .u8) _ 5 ?hg (N := 8) ?hd (xs := ([3] : List Int)) (inner := [.int .u8 3]) (ok := fun _ => True) (okp := fun _ => True) ?hr ?hp (fun _ hk => hk) trivial (Below.refl _ _) (Nat.le_refl _) (by simp) ?_; (case hd => rfl); (case hg => rfl); (case hr => first | (go_simp; done) | (go_simp; rfl)); (case hp => exact (Reps.one (show Kd.M (Kd.int .u8) _ _ _ 3 [.int .u8 3] from rfl) (Reps.none _ _))); intro v187 w130 ho131 hb hg_ hnew_; clear hg_ hnew_; (first | rw [← Ny186.out] at ho131 | (simp only [Int.reduceToNat] at ho131; rw [← Ny186.out] at ho131)); have n0_ := Aside0.mk (Kd.R_lower ho131 (below_size q5_1)); have n1_ := Aside0.mk (below_step q5_1 hb); clear HB; have HO188 := n0_; have HB := n1_; clear n0_ n1_; clear hb ho131; obtain ⟨Ao132, co132, eo132⟩ := Kd.R_slice HO188.out; subst eo132) | ((with_reducible refine gate_callee (f := 30) rfl ?_); refine goesL_ (some 10) rfl rfl Try.func30 q5_43 rfl #[.agg #[.int .i64 1, .int .i64 2, .slice Ao132 y186.length co132]] rfl q5_5 ?_; (with_reducible refine (record_Make.calls k 1 2 _ _ y186 t189 t192 _ ?side1 ?side2 A1.out).mono ?_); (case side1 => repeat (first | exact (Kd.R_reads' HO188.out).2.2 | (with_reducible refine Kd.C_alloc ?_ _) | (with_reducible refine Kd.C_drewN ?_ _) | (with_reducible refine Kd.C_drew ?_))); (case side2 => exact (Kd.R_reads' HO188.out).2.1); rintro e w133 ⟨v190, rfl, ho0, hb⟩; refine ⟨_, rfl, ?_⟩; have n0_ := Aside0.mk (Kd.R_elder' q5_3 (Kd.R_base ho0) hb); have n1_ := Aside0.mk (Kd.R_lower (Kd.R_new' ho0 (Kd.R_lt q5_3)) (below_size q5_1)); have n2_ := Aside0.mk (below_step q5_1 hb); clear HO188; clear HB; have HO188 := n0_; have HO191 := n1_; have HB := n2_; clear n0_ n1_ n2_; (try clear hb); (try clear hb2); (try clear hk); (try clear hi); (try clear ho0); obtain ⟨Ao134, co134, eo134⟩ := Kd.R_slice HO191.out; subst eo134) | ((with_reducible refine gate_callee (f := 33) rfl ?_); refine goesL_ (some 15) rfl rfl Try.func33 q5_43 rfl #[.slice Ao134 t189.length co134, .bool true] rfl q5_5 ?_; (with_reducible refine (record_Marked.calls _ _ t189 true t193 _ ?side1 ?side2 A2.out).mono ?_); (case side1 => repeat (first | exact (Kd.R_reads' HO191.out).2.2 | (with_reducible refine Kd.C_alloc ?_ _) | (with_reducible refine Kd.C_drewN ?_ _) | (with_reducible refine Kd.C_drew ?_))); (case side2 => exact (Kd.R_reads' HO191.out).2.1); rintro e w135 ⟨v194, rfl, ho0, hb⟩; refine ⟨_, rfl, ?_⟩; have n0_ := Aside0.mk (Kd.R_elder' q5_3 (Kd.R_base ho0) hb); have n1_ := Aside0.mk (Kd.R_elder' q5_4 (Kd.R_base ho0) hb); have n2_ := Aside0.mk (Kd.R_lower (Kd.R_new' (Kd.R_new' ho0 (Kd.R_lt q5_3)) (Kd.R_lt q5_4)) (below_size q5_1)); have n3_ := Aside0.mk (below_step q5_1 hb); clear HO188; clear HO191; clear HB; have HO188 := n0_; have HO191 := n1_; have HO195 := n2_; have HB := n3_; clear n0_ n1_ n2_ n3_; (try clear hb); (try clear hb2); (try clear hk); (try clear hi); (try clear ho0); obtain ⟨Ao136, co136, eo136⟩ := Kd.R_slice HO195.out; subst eo136) | ((with_reducible refine gate_callee (f := 32) rfl ?_); refine goesL_ (some 16) rfl rfl Try.func32 q5_43 rfl #[.slice Ao136 t193.length co136] rfl q5_5 ?_; (with_reducible refine (record_Read.calls k _ _ t193 t196 t197 t198 t201 _ ?side1 ?side2 A3.out).mono ?_); (case side1 => repeat (first | exact (Kd.R_reads' HO195.out).2.2 | (with_reducible refine Kd.C_alloc ?_ _) | (with_reducible refine Kd.C_drewN ?_ _) | (with_reducible refine Kd.C_drew ?_))); (case side2 => exact (Kd.R_reads' HO195.out).2.1); rintro e w137 ⟨v199, rfl, ho0, hb⟩; refine ⟨_, rfl, ?_⟩; have n0_ := Aside0.mk (Kd.R_elder' q5_3 (Kd.R_base ho0) hb); have n1_ := Aside0.mk (Kd.R_elder' q5_4 (Kd.R_base ho0) hb); have n2_ := Aside0.mk (Kd.R_elder' q5_6 (Kd.R_base ho0) hb); have n3_ := Aside0.mk (Kd.R_lower (Kd.R_new' (Kd.R_new' (Kd.R_new' ho0 (Kd.R_lt q5_3)) (Kd.R_lt q5_4)) (Kd.R_lt q5_6)) (below_size q5_1)); have n4_ := Aside0.mk (below_step q5_1 hb); clear HO188; clear HO191; clear HO195; clear HB; have HO188 := n0_; have HO191 := n1_; have HO195 := n2_; have HO200 := n3_; have HB := n4_; clear n0_ n1_ n2_ n3_ n4_; (try clear hb); (try clear hb2); (try clear hk); (try clear hi); (try clear ho0)) | ((with_reducible refine gate_dst (N := 3) rfl ?_); (try (refine gate_guard (by rfl) ?_; dsimp only)); refine box_event ?hg (N := 3) ?hd (cs := #[.int .i64 0, .int .i64 0, .slice none 0 0]) (t := 51) ?hr ?_; (case hd => rfl); (case hg => rfl); (case hr => first | (go_simp; done) | (go_simp; rfl)); intro gb202 hg w138 hbox hb; have n0_ := Aside0.mk (Kd.R_below q5_3 hb); have n1_ := Aside0.mk (Kd.R_below q5_4 hb); have n2_ := Aside0.mk (Kd.R_below q5_6 hb); have n3_ := Aside0.mk (Kd.R_below q5_9 hb); have n4_ := Aside0.mk (below_step q5_1 hb); have n5_ := Aside0.mk (hbox); have n6_ := Aside0.mk ((by rw [hg]; exact (below_size q5_1) : w.heap.size ≤ gb202)); have n7_ := Aside0.mk ((by rw [hg]; exact (below_size q5_1) : w.heap.size ≤ gb202)); clear HO188; clear HO191; clear HO195; clear HO200; clear HB; have HO188 := n0_; have HO191 := n1_; have HO195 := n2_; have HO200 := n3_; have HB := n4_; have BK202 := n5_; have GW202 := n6_; have GE202 := n7_; clear n0_ n1_ n2_ n3_ n4_ n5_ n6_ n7_; clear hb hbox hg; have hcz139_0 : w138.cell? ⟨gb202, 0, none⟩ = some (.int .i64 0) := (blk_cell BK202.out 0).trans rfl; have hcz139_1 : w138.cell? ⟨gb202, 1, none⟩ = some (.int .i64 0) := (blk_cell BK202.out 1).trans rfl; have hcz139_2 : w138.cell? ⟨gb202, 2, none⟩ = some (.slice none 0 0) := (blk_cell BK202.out 2).trans rfl; have hfz139_0 := blk_frozen BK202.out 0; have hfz139_1 := blk_frozen BK202.out 1; have hfz139_2 := blk_frozen BK202.out 2; obtain ⟨Ao140, co140, eo140⟩ := Kd.R_slice HO200.out; subst eo140) | ((with_reducible refine gate_dst (N := 20) rfl ?_); (try (refine gate_guard (by rfl) ?_; dsimp only)); refine Kd.R_make (Kd.int .u8) _ 5 rfl (N := 20) rfl 27 _ _ rfl 256 rfl rfl Try.underlying27 (.int .u8 0) 1 info5 rfl q5_14 q5_45 0 (ok := fun _ => True) (okp := fun _ => True) rfl (fun _ hk => hk) trivial q5_45 q5_45 (Below.refl _ _) (Nat.le_refl _) ?_; intro v204 w141 ho142 hb hg_ hnew_; clear hg_ hnew_; (first | rw [← Ny203.out] at ho142 | (simp only [Int.reduceToNat] at ho142; rw [← Ny203.out] at ho142)); have n0_ := Aside0.mk (Kd.R_elder' q5_24 (Kd.R_base ho142) hb); have n1_ := Aside0.mk (Kd.R_elder' q5_21 (Kd.R_base ho142) hb); have n2_ := Aside0.mk (Kd.R_elder' q5_18 (Kd.R_base ho142) hb); have n3_ := Aside0.mk (Kd.R_elder' q5_15 (Kd.R_base ho142) hb); have n4_ := Aside0.mk (Kd.R_lower (Kd.R_new' (Kd.R_new' (Kd.R_new' (Kd.R_new' ho142 (Kd.R_lt q5_24)) (Kd.R_lt q5_21)) (Kd.R_lt q5_18)) (Kd.R_lt q5_15)) (below_size q5_2)); have n5_ := Aside0.mk (blk_below (g := gb202) (o := .cells #[.int .i64 t196, .int .i64 t197, .slice Ao140 t198.length co140] 51 (0, 0)) q5_7 hb); have n6_ := Aside0.mk (below_step q5_2 hb); clear HO188; clear HO191; clear HO195; clear HO200; clear BK202; clear HB; have HO188 := n0_; have HO191 := n1_; have HO195 := n2_; have HO200 := n3_; have HO205 := n4_; have BK202 := n5_; have HB := n6_; clear n0_ n1_ n2_ n3_ n4_ n5_ n6_; clear hb ho142; obtain ⟨Ao143, co143, eo143⟩ := Kd.R_slice HO205.out; subst eo143) | ((with_reducible refine gate_callee (f := 32) rfl ?_); refine goesL_ (some 21) rfl rfl Try.func32 q5_43 rfl #[.slice Ao143 y203.length co143] rfl q5_5 ?_; (with_reducible refine (record_Read.calls k _ _ y203 t206 t207 t208 t211 _ ?side1 ?side2 A5.out).mono ?_); (case side1 => repeat (first | exact (Kd.R_reads' HO205.out).2.2 | (with_reducible refine Kd.C_alloc ?_ _) | (with_reducible refine Kd.C_drewN ?_ _) | (with_reducible refine Kd.C_drew ?_))); (case side2 => exact (Kd.R_reads' HO205.out).2.1); rintro e w144 ⟨v209, rfl, ho0, hb⟩; refine ⟨_, rfl, ?_⟩; have n0_ := Aside0.mk (Kd.R_elder' q5_3 (Kd.R_base ho0) hb); have n1_ := Aside0.mk (Kd.R_elder' q5_4 (Kd.R_base ho0) hb); have n2_ := Aside0.mk (Kd.R_elder' q5_6 (Kd.R_base ho0) hb); have n3_ := Aside0.mk (Kd.R_elder' q5_9 (Kd.R_base ho0) hb); have n4_ := Aside0.mk (Kd.R_elder' q5_10 (Kd.R_base ho0) hb); have n5_ := Aside0.mk (Kd.R_lower (Kd.R_new' (Kd.R_new' (Kd.R_new' (Kd.R_new' (Kd.R_new' ho0 (Kd.R_lt q5_3)) (Kd.R_lt q5_4)) (Kd.R_lt q5_6)) (Kd.R_lt q5_9)) (Kd.R_lt q5_10)) (below_size q5_2)); have n6_ := Aside0.mk (blk_below (g := gb202) (o := .cells #[.int .i64 t196, .int .i64 t197, .slice Ao140 t198.length co140] 51 (0, 0)) q5_8 hb); have n7_ := Aside0.mk (below_step q5_2 hb); clear HO188; clear HO191; clear HO195; clear HO200; clear HO205; clear BK202; clear HB; have HO188 := n0_; have HO191 := n1_; have HO195 := n2_; have HO200 := n3_; have HO205 := n4_; have HO210 := n5_; have BK202 := n6_; have HB := n7_; clear n0_ n1_ n2_ n3_ n4_ n5_ n6_ n7_; (try clear hb); (try clear hb2); (try clear hk); (try clear hi); (try clear ho0)) | ((with_reducible refine gate_dst (N := 5) rfl ?_); (try (refine gate_guard (by rfl) ?_; dsimp only)); refine box_event ?hg (N := 5) ?hd (cs := #[.int .i64 0, .int .i64 0, .slice none 0 0]) (t := 51) ?hr ?_; (case hd => rfl); (case hg => rfl); (case hr => first | (go_simp; done) | (go_simp; rfl)); intro gb212 hg w145 hbox hb; have n0_ := Aside0.mk (Kd.R_below q5_3 hb); have n1_ := Aside0.mk (Kd.R_below q5_4 hb); have n2_ := Aside0.mk (Kd.R_below q5_6 hb); have n3_ := Aside0.mk (Kd.R_below q5_9 hb); have n4_ := Aside0.mk (Kd.R_below q5_10 hb); have n5_ := Aside0.mk (Kd.R_below q5_13 hb); have n6_ := Aside0.mk (blk_below (g := gb202) (o := .cells #[.int .i64 t196, .int .i64 t197, .slice Ao140 t198.length co140] 51 (0, 0)) q5_8 hb); have n7_ := Aside0.mk (below_step q5_2 hb); have n8_ := Aside0.mk (hbox); have n9_ := Aside0.mk ((by rw [hg]; exact (below_size q5_2) : w.heap.size ≤ gb212)); have n10_ := Aside0.mk ((by rw [hg]; exact (below_size q5_2) : w.heap.size ≤ gb212)); have n11_ := Aside0.mk ((by rw [hg]; exact Nat.ne_of_lt (blk_lt (g := gb202) (o := .cells #[.int .i64 t196, .int .i64 t197, .slice Ao140 t198.length co140] 51 (0, 0)) q5_8) : gb202 ≠ gb212)); have n12_ := Aside0.mk ((by rw [hg]; exact Nat.ne_of_gt (blk_lt (g := gb202) (o := .cells #[.int .i64 t196, .int .i64 t197, .slice Ao140 t198.length co140] 51 (0, 0)) q5_8) : gb212 ≠ gb202)); clear HO188; clear HO191; clear HO195; clear HO200; clear HO205; clear HO210; clear BK202; clear HB; have HO188 := n0_; have HO191 := n1_; have HO195 := n2_; have HO200 := n3_; have HO205 := n4_; have HO210 := n5_; have BK202 := n6_; have HB := n7_; have BK212 := n8_; have GW212 := n9_; have GE212 := n10_; have NB202_212 := n11_; have NB212_202 := n12_; clear n0_ n1_ n2_ n3_ n4_ n5_ n6_ n7_ n8_ n9_ n10_ n11_ n12_; clear hb hbox hg; have hnb146 := NB212_202.out; have hnc146 := NB202_212.out; have hcz147_0 : w145.cell? ⟨gb212, 0, none⟩ = some (.int .i64 0) := (blk_cell BK212.out 0).trans rfl; have hcz147_1 : w145.cell? ⟨gb212, 1, none⟩ = some (.int .i64 0) := (blk_cell BK212.out 1).trans rfl; have hcz147_2 : w145.cell? ⟨gb212, 2, none⟩ = some (.slice none 0 0) := (blk_cell BK212.out 2).trans rfl; have hfz147_0 := blk_frozen BK212.out 0; have hfz147_1 := blk_frozen BK212.out 1; have hfz147_2 := blk_frozen BK212.out 2; obtain ⟨Ao148, co148, eo148⟩ := Kd.R_slice HO210.out; subst eo148))
      go_ret
      exact ⟨by first | rfl | (simp [errW_none, errW_some] <;> rfl) | (simp [*, errW_none, errW_some] <;> rfl), by repeat (first | (with_reducible first | exact HB.out | apply below_alloc | apply pw_below_drewN | apply below_drew1 | refine below_set ?_ GE202.out | refine below_set ?_ GE212.out) | exact HB.out)⟩
  · rw [if_neg c4] at H
    exact absurd H (by simp)

/-! ### batonref22_Check: function 31 -/
def batonref22_Check.j0 : Nat → Bool → Int → Int → List Int → Option (Int)
  | 0, _, _, _, _ => none
  | k + 1, x20, x214000, x214001, x214002 => if x20 = true then (some 1) else (if (x214002.length : Int) > 234 then (some 22) else (some 0))
def batonref22_Check.f (k : Nat) (a0_0 : Int) (a0_1 : Int) (l0_2 : List Int) : Option (Int) := if a0_0 < 0 then (batonref22_Check.j0 k true a0_0 a0_1 l0_2) else (if a0_0 > 72057594037927935 then (batonref22_Check.j0 k true a0_0 a0_1 l0_2) else (if a0_1 < 0 then (batonref22_Check.j0 k true a0_0 a0_1 l0_2) else (batonref22_Check.j0 k (decide (a0_1 > 72057594037927935)) a0_0 a0_1 l0_2)))
theorem batonref22_Check.mono_l : ∀ k, (∀ y0 y1 y2 y3, LeO (batonref22_Check.j0 k y0 y1 y2 y3) (batonref22_Check.j0 (k + 1) y0 y1 y2 y3))
  | 0 => fun _ _ _ _ r h => by simp [batonref22_Check.j0] at h
  | k + 1 => by
    have ih0 := batonref22_Check.mono_l k
    · intro y0 y1 y2 y3
      unfold batonref22_Check.j0
      repeat' first
      | (with_reducible exact ih0 _ _ _ _)
      | (with_reducible exact LeO.refl _)
      | (with_reducible exact LeO.none _)
      | (with_reducible refine LeO.ite ?_ ?_)
      | (with_reducible refine LeO.bind ?_ (fun _ => ?_))
      | exact ih0 _ _ _ _
      | exact LeO.none _
      | refine LeO.ite ?_ ?_
      | refine LeO.bind ?_ (fun _ => ?_)
theorem batonref22_Check.mono : ∀ a0 a1 a2 k, LeO (batonref22_Check.f k a0 a1 a2) (batonref22_Check.f (k + 1) a0 a1 a2) := by
  intro a0 a1 a2 k
  have ih0 := batonref22_Check.mono_l k
  unfold batonref22_Check.f
  repeat' first
      | (with_reducible exact ih0 _ _ _ _)
      | (with_reducible exact LeO.refl _)
      | (with_reducible exact LeO.none _)
      | (with_reducible refine LeO.ite ?_ ?_)
      | (with_reducible refine LeO.bind ?_ (fun _ => ?_))
      | exact ih0 _ _ _ _
      | exact LeO.none _
      | refine LeO.ite ?_ ?_
      | refine LeO.bind ?_ (fun _ => ?_)
set_option maxHeartbeats 8000000 in
set_option maxRecDepth 100000 in
theorem batonref22_Check.calls (k : Nat) (a0_0 : Int) (a0_1 : Int) (A0_2 : Option Addr) (c0_2 : Nat) (l0_2 : List Int) (r : Int) (w : World) (hr0_2 : Kd.C (Kd.int .u8) w A0_2 l0_2.length l0_2) (hc0_2 : l0_2.length ≤ c0_2) (h : batonref22_Check.f k a0_0 a0_1 l0_2 = some r) :
    Calls Try.prog 31 #[.agg #[.int .i64 a0_0, .int .i64 a0_1, .slice A0_2 l0_2.length c0_2]] w fun e w' => e = .returned (.int .i64 r) ∧ Below w.heap.size w w' := by
  have hu52 := Try.underlying52
  have HR0_2 := Aside0.mk hr0_2
  have HC0_2 := Aside0.mk hc0_2
  clear hr0_2 hc0_2
  have HB := Aside0.mk (Below.refl w.heap.size w)
  have H : (if a0_0 < 0 then (batonref22_Check.j0 k true a0_0 a0_1 l0_2) else (if a0_0 > 72057594037927935 then (batonref22_Check.j0 k true a0_0 a0_1 l0_2) else (if a0_1 < 0 then (batonref22_Check.j0 k true a0_0 a0_1 l0_2) else (batonref22_Check.j0 k (decide (a0_1 > 72057594037927935)) a0_0 a0_1 l0_2)))) = some r := h
  clear h
  have HC2 := Aside0.mk H
  clear H
  go_enter Try.func31, Try.ntmps31
  go_upto_region 1 with (first | ((with_reducible refine gate_dst (N := 1) rfl ?_); refine box_event ?hg (N := 1) ?hd (cs := #[.int .i64 a0_0, .int .i64 a0_1, .slice A0_2 l0_2.length c0_2]) (t := 52) ?hr ?_; (case hd => rfl); (case hg => rfl); (case hr => first | (go_simp; done) | (go_simp; rfl)); intro gb213 hg w3 hbox hb; have n0_ := Aside0.mk (below_step q5_1 hb); have n1_ := Aside0.mk (hbox); have n2_ := Aside0.mk ((by rw [hg]; exact (below_size q5_1) : w.heap.size ≤ gb213)); have n3_ := Aside0.mk ((by rw [hg]; exact (below_size q5_1) : w.heap.size ≤ gb213)); clear HB; have HB := n0_; have BK213 := n1_; have GW213 := n2_; have GE213 := n3_; clear n0_ n1_ n2_ n3_; clear hb hbox hg))
  (try simp only [Act.put, List.setIfInBounds_toArray, List.set_cons_zero, List.set_cons_succ])
  go_cut [20] (fun v20 wc => ∃ (kq : Nat) (x20_1 : Bool), v20 = .bool x20_1 ∧ Aside0 (batonref22_Check.j0 kq x20_1 a0_0 a0_1 l0_2 = some r) ∧ Aside0 (kq ≤ k) ∧ Aside0 (wc.heap[gb213]? = some (.cells #[.int .i64 a0_0, .int .i64 a0_1, (.slice A0_2 l0_2.length c0_2)] 52 (0, 0))) ∧ Aside0 (Below w.heap.size w wc))
  case first =>
    have H := HC2.out
    clear HC2
    by_cases c4 : a0_0 < 0
    · rw [if_pos c4] at H
      have c4b0 : decide (a0_0 < 0) = true := decide_eq_true c4
      clear c4
      (first | rw [c4b0] | (simp only [i64_w, i32_w]; rw [c4b0]) | skip)
      have H' := Aside0.mk H
      clear H
      have hcz5_0 : w3.cell? ⟨gb213, 0, none⟩ = some (.int .i64 a0_0) := (blk_cell BK213.out 0).trans rfl
      have hcz5_1 : w3.cell? ⟨gb213, 1, none⟩ = some (.int .i64 a0_1) := (blk_cell BK213.out 1).trans rfl
      have hcz5_2 : w3.cell? ⟨gb213, 2, none⟩ = some (.slice A0_2 l0_2.length c0_2) := (blk_cell BK213.out 2).trans rfl
      have hfz5_0 := blk_frozen BK213.out 0
      have hfz5_1 := blk_frozen BK213.out 1
      have hfz5_2 := blk_frozen BK213.out 2
      go_wp2
      go_meet
      case rel => exact ⟨_, (true), q5_11, H', ⟨by first | omega | exact Nat.le_refl _⟩, ⟨by (with_reducible repeat (first | refine blk_drewN ?_ _ | refine blk_drew ?_ | refine blk_alloc ?_ _)); exact BK213.out⟩, ⟨by repeat (first | (with_reducible first | exact HB.out | apply below_alloc | apply pw_below_drewN | apply below_drew1 | refine below_set ?_ GE213.out) | exact HB.out)⟩⟩
    · rw [if_neg c4] at H
      have c4b0 : decide (a0_0 < 0) = false := decide_eq_false c4
      clear c4
      (first | rw [c4b0] | (simp only [i64_w, i32_w]; rw [c4b0]) | skip)
      by_cases c6 : a0_0 > 72057594037927935
      · rw [if_pos c6] at H
        have c6b0 : decide (72057594037927935 < a0_0) = true := decide_eq_true c6
        clear c6
        have H' := Aside0.mk H
        clear H
        have hcz7_0 : w3.cell? ⟨gb213, 0, none⟩ = some (.int .i64 a0_0) := (blk_cell BK213.out 0).trans rfl
        have hcz7_1 : w3.cell? ⟨gb213, 1, none⟩ = some (.int .i64 a0_1) := (blk_cell BK213.out 1).trans rfl
        have hcz7_2 : w3.cell? ⟨gb213, 2, none⟩ = some (.slice A0_2 l0_2.length c0_2) := (blk_cell BK213.out 2).trans rfl
        have hfz7_0 := blk_frozen BK213.out 0
        have hfz7_1 := blk_frozen BK213.out 1
        have hfz7_2 := blk_frozen BK213.out 2
        go_wp2
        go_meet
        case rel => exact ⟨_, (true), q5_11, H', ⟨by first | omega | exact Nat.le_refl _⟩, ⟨by (with_reducible repeat (first | refine blk_drewN ?_ _ | refine blk_drew ?_ | refine blk_alloc ?_ _)); exact BK213.out⟩, ⟨by repeat (first | (with_reducible first | exact HB.out | apply below_alloc | apply pw_below_drewN | apply below_drew1 | refine below_set ?_ GE213.out) | exact HB.out)⟩⟩
      · rw [if_neg c6] at H
        have c6b0 : decide (72057594037927935 < a0_0) = false := decide_eq_false c6
        clear c6
        by_cases c8 : a0_1 < 0
        · rw [if_pos c8] at H
          have c8b0 : decide (a0_1 < 0) = true := decide_eq_true c8
          clear c8
          have H' := Aside0.mk H
          clear H
          have hcz9_0 : w3.cell? ⟨gb213, 0, none⟩ = some (.int .i64 a0_0) := (blk_cell BK213.out 0).trans rfl
          have hcz9_1 : w3.cell? ⟨gb213, 1, none⟩ = some (.int .i64 a0_1) := (blk_cell BK213.out 1).trans rfl
          have hcz9_2 : w3.cell? ⟨gb213, 2, none⟩ = some (.slice A0_2 l0_2.length c0_2) := (blk_cell BK213.out 2).trans rfl
          have hfz9_0 := blk_frozen BK213.out 0
          have hfz9_1 := blk_frozen BK213.out 1
          have hfz9_2 := blk_frozen BK213.out 2
          go_wp2
          go_meet
          case rel => exact ⟨_, (true), q5_11, H', ⟨by first | omega | exact Nat.le_refl _⟩, ⟨by (with_reducible repeat (first | refine blk_drewN ?_ _ | refine blk_drew ?_ | refine blk_alloc ?_ _)); exact BK213.out⟩, ⟨by repeat (first | (with_reducible first | exact HB.out | apply below_alloc | apply pw_below_drewN | apply below_drew1 | refine below_set ?_ GE213.out) | exact HB.out)⟩⟩
        · rw [if_neg c8] at H
          have c8b0 : decide (a0_1 < 0) = false := decide_eq_false c8
          clear c8
          have H' := Aside0.mk H
          clear H
          have hcz10_0 : w3.cell? ⟨gb213, 0, none⟩ = some (.int .i64 a0_0) := (blk_cell BK213.out 0).trans rfl
          have hcz10_1 : w3.cell? ⟨gb213, 1, none⟩ = some (.int .i64 a0_1) := (blk_cell BK213.out 1).trans rfl
          have hcz10_2 : w3.cell? ⟨gb213, 2, none⟩ = some (.slice A0_2 l0_2.length c0_2) := (blk_cell BK213.out 2).trans rfl
          have hfz10_0 := blk_frozen BK213.out 0
          have hfz10_1 := blk_frozen BK213.out 1
          have hfz10_2 := blk_frozen BK213.out 2
          go_wp2
          go_meet
          case rel => exact ⟨_, (decide (a0_1 > 72057594037927935)), q5_11, H', ⟨by first | omega | exact Nat.le_refl _⟩, ⟨by (with_reducible repeat (first | refine blk_drewN ?_ _ | refine blk_drew ?_ | refine blk_alloc ?_ _)); exact BK213.out⟩, ⟨by repeat (first | (with_reducible first | exact HB.out | apply below_alloc | apply pw_below_drewN | apply below_drew1 | refine below_set ?_ GE213.out) | exact HB.out)⟩⟩
  case rest =>
    clear HC2
    try clear p2
    try clear c3
    try clear c4
    try clear c4b0
    try clear c6
    try clear c6b0
    try clear c8
    try clear c8b0
    try clear hcz10_0
    try clear hcz10_1
    try clear hcz10_2
    try clear hcz5_0
    try clear hcz5_1
    try clear hcz5_2
    try clear hcz7_0
    try clear hcz7_1
    try clear hcz7_2
    try clear hcz9_0
    try clear hcz9_1
    try clear hcz9_2
    try clear hfz10_0
    try clear hfz10_1
    try clear hfz10_2
    try clear hfz5_0
    try clear hfz5_1
    try clear hfz5_2
    try clear hfz7_0
    try clear hfz7_1
    try clear hfz7_2
    try clear hfz9_0
    try clear hfz9_1
    try clear hfz9_2
    obtain ⟨kq, x20_1, rfl, HA, HJ1, BK213, HB⟩ := hcut
    cases kq with
    | zero => exact absurd HA.out (by simp [batonref22_Check.j0])
    | succ kj1 =>
      have H := HA.out
      clear HA
      simp only [batonref22_Check.j0] at H
      by_cases c11 : x20_1 = true
      · subst c11
        have H1 : (some 1) = some r := by rw [if_pos rfl] at H; exact H
        clear H
        have H := H1
        clear H1
        obtain rfl := Option.some.inj H
        go_wp2
        go_ret
        exact ⟨by first | rfl | (simp [errW_none, errW_some] <;> rfl) | (simp [*, errW_none, errW_some] <;> rfl), by repeat (first | (with_reducible first | exact HB.out | apply below_alloc | apply pw_below_drewN | apply below_drew1 | refine below_set ?_ GE213.out) | exact HB.out)⟩
      · replace c11 := Bool.eq_false_iff.mpr c11
        subst c11
        have H1 : (if (l0_2.length : Int) > 234 then (some 22) else (some 0)) = some r := by rw [if_neg (show ¬ (false = true) by decide)] at H; exact H
        clear H
        have H := H1
        clear H1
        by_cases c12 : (l0_2.length : Int) > 234
        · rw [if_pos c12] at H
          have c12b0 : decide (234 < (l0_2.length : Int)) = true := decide_eq_true c12
          have c12b1 : decide (234 < l0_2.length) = true := decide_eq_true q5_45
          clear c12
          obtain rfl := Option.some.inj H
          have hcz13_0 : wc.cell? ⟨gb213, 0, none⟩ = some (.int .i64 a0_0) := (blk_cell BK213.out 0).trans rfl
          have hcz13_1 : wc.cell? ⟨gb213, 1, none⟩ = some (.int .i64 a0_1) := (blk_cell BK213.out 1).trans rfl
          have hcz13_2 : wc.cell? ⟨gb213, 2, none⟩ = some (.slice A0_2 l0_2.length c0_2) := (blk_cell BK213.out 2).trans rfl
          have hfz13_0 := blk_frozen BK213.out 0
          have hfz13_1 := blk_frozen BK213.out 1
          have hfz13_2 := blk_frozen BK213.out 2
          go_wp2
          go_ret
          exact ⟨by first | rfl | (simp [errW_none, errW_some] <;> rfl) | (simp [*, errW_none, errW_some] <;> rfl), by repeat (first | (with_reducible first | exact HB.out | apply below_alloc | apply pw_below_drewN | apply below_drew1 | refine below_set ?_ GE213.out) | exact HB.out)⟩
        · rw [if_neg c12] at H
          have c12b0 : decide (234 < (l0_2.length : Int)) = false := decide_eq_false c12
          have c12b1 : decide (234 < l0_2.length) = false := decide_eq_false q5_45
          clear c12
          obtain rfl := Option.some.inj H
          have hcz14_0 : wc.cell? ⟨gb213, 0, none⟩ = some (.int .i64 a0_0) := (blk_cell BK213.out 0).trans rfl
          have hcz14_1 : wc.cell? ⟨gb213, 1, none⟩ = some (.int .i64 a0_1) := (blk_cell BK213.out 1).trans rfl
          have hcz14_2 : wc.cell? ⟨gb213, 2, none⟩ = some (.slice A0_2 l0_2.length c0_2) := (blk_cell BK213.out 2).trans rfl
          have hfz14_0 := blk_frozen BK213.out 0
          have hfz14_1 := blk_frozen BK213.out 1
          have hfz14_2 := blk_frozen BK213.out 2
          go_wp2
          go_ret
          exact ⟨by first | rfl | (simp [errW_none, errW_some] <;> rfl) | (simp [*, errW_none, errW_some] <;> rfl), by repeat (first | (with_reducible first | exact HB.out | apply below_alloc | apply pw_below_drewN | apply below_drew1 | refine below_set ?_ GE213.out) | exact HB.out)⟩

/-! ### batonref22_eight: function 46 -/
def batonref22_eight.l0 : Nat → Int → List Int → Int → Option (List Int)
  | 0, _, _, _ => none
  | k + 1, x0, x3, x4 => if x4 < 8 then ((some (([(Int.tmod x0 256) % 256] : List Int) : List Int)).bind fun y214 => (if y214.length + x3.length < 140737488355328 then (batonref22_eight.l0 k (wrap64 (Int.tdiv x0 256)) (y214 ++ x3) (wrap64 (x4 + 1))) else (none))) else (some x3)
def batonref22_eight.f (k : Nat) (a0 : Int) : Option (List Int) := batonref22_eight.l0 k a0 ([] : List Int) 0
theorem batonref22_eight.mono_l : ∀ k, (∀ y0 y1 y2, LeO (batonref22_eight.l0 k y0 y1 y2) (batonref22_eight.l0 (k + 1) y0 y1 y2))
  | 0 => fun _ _ _ r h => by simp [batonref22_eight.l0] at h
  | k + 1 => by
    have ih0 := batonref22_eight.mono_l k
    · intro y0 y1 y2
      unfold batonref22_eight.l0
      repeat' first
      | (with_reducible exact ih0 _ _ _)
      | (with_reducible exact LeO.refl _)
      | (with_reducible exact LeO.none _)
      | (with_reducible refine LeO.ite ?_ ?_)
      | (with_reducible refine LeO.bind ?_ (fun _ => ?_))
      | exact ih0 _ _ _
      | exact LeO.none _
      | refine LeO.ite ?_ ?_
      | refine LeO.bind ?_ (fun _ => ?_)
theorem batonref22_eight.mono : ∀ a0 k, LeO (batonref22_eight.f k a0) (batonref22_eight.f (k + 1) a0) := by
  intro a0 k
  have ih0 := batonref22_eight.mono_l k
  unfold batonref22_eight.f
  repeat' first
      | (with_reducible exact ih0 _ _ _)
      | (with_reducible exact LeO.refl _)
      | (with_reducible exact LeO.none _)
      | (with_reducible refine LeO.ite ?_ ?_)
      | (with_reducible refine LeO.bind ?_ (fun _ => ?_))
      | exact ih0 _ _ _
      | exact LeO.none _
      | refine LeO.ite ?_ ?_
      | refine LeO.bind ?_ (fun _ => ?_)
set_option maxHeartbeats 8000000 in
set_option maxRecDepth 100000 in
theorem batonref22_eight.calls (k : Nat) (a0 : Int) (r : List Int) (w : World) (h : batonref22_eight.f k a0 = some r) :
    Calls Try.prog 46 #[.int .i64 a0] w fun e w' => ∃ v0_ : Value, e = .returned (v0_) ∧ Kd.R (Kd.int .u8) 5 w' w.heap.size (fun _ => True) v0_ r ∧ Below w.heap.size w w' := by
  have HB := Aside0.mk (Below.refl w.heap.size w)
  have H : (batonref22_eight.l0 k a0 ([] : List Int) 0) = some r := h
  clear h
  have H' := Aside0.mk H
  clear H
  go_enter Try.func46, Try.ntmps46
  go_wp2
  go_loopg [0, 3, 4] k (fun kq v0 v3 v4 w' => ∃ (x0_1 : Int) (x3_1 : List Int) (x4_1 : Int), v0 = .int .i64 x0_1 ∧ v4 = .int .i64 x4_1 ∧ Aside0 (batonref22_eight.l0 kq x0_1 x3_1 x4_1 = some r) ∧ Aside0 (kq ≤ k) ∧ Aside0 (Kd.R (Kd.int .u8) 5 w' w.heap.size (fun _ => True) v3 x3_1) ∧ Aside0 (Below w.heap.size w w'))
  case atStart => exact ⟨(a0), (([] : List Int)), (0), q5_11, q5_11, H', ⟨Nat.le_refl _⟩, ⟨by first | exact Kd.R_nil _ _ _ _ _ | exact Kd.N_nil _ _ _ _ _ | exact Kd.V_nil _ _ _ _ _ | exact Kd.Q_nil _ _ _ _ _ | exact Kd.S_nil _ _ _ _ _⟩, ⟨by repeat (first | (with_reducible first | exact HB.out | apply below_alloc | apply pw_below_drewN | apply below_drew1) | exact HB.out)⟩⟩
  case round =>
    clear H'
    obtain ⟨x0_1, x3_1, x4_1, rfl, rfl, HA, HK1, HO_3, HB⟩ := hrel
    cases gk with
    | zero => exact absurd HA.out (by simp [batonref22_eight.l0])
    | succ k1 =>
      have H := HA.out
      clear HA
      simp only [batonref22_eight.l0] at H
      by_cases c2 : x4_1 < 8
      · rw [if_pos c2] at H
        have c2b0 : decide (x4_1 < 8) = true := decide_eq_true c2
        clear c2
        obtain ⟨y214, hy214⟩ : ∃ y_ : List Int, y_ = (([(Int.tmod x0_1 256) % 256] : List Int)) := ⟨_, rfl⟩
        replace H : (if y214.length + x3_1.length < 140737488355328 then (batonref22_eight.l0 k1 (wrap64 (Int.tdiv x0_1 256)) (y214 ++ x3_1) (wrap64 (x4_1 + 1))) else (none)) = some r := by first | (rw [hy214]; with_reducible exact H) | (have H2_ := (Option.bind_some _ _).symm.trans H; rw [hy214]; with_reducible exact H2_) | (have H2_ := (Option.bind_some _ _).symm.trans H; with_reducible exact H2_) | with_reducible exact H | (rw [hy214]; exact H) | exact H
        have Ny214 := Aside0.mk hy214
        clear hy214
        by_cases c3 : y214.length + x3_1.length < 140737488355328
        · rw [if_pos c3] at H
          have LMc3 := Aside0.mk c3
          clear c3
          obtain ⟨y217, hy217⟩ : ∃ y_ : List Int, y_ = (y214 ++ x3_1) := ⟨_, rfl⟩
          replace H : (batonref22_eight.l0 k1 (wrap64 (Int.tdiv x0_1 256)) y217 (wrap64 (x4_1 + 1))) = some r := by first | (rw [hy217]; with_reducible exact H) | (have H2_ := (Option.bind_some _ _).symm.trans H; rw [hy217]; with_reducible exact H2_) | (have H2_ := (Option.bind_some _ _).symm.trans H; with_reducible exact H2_) | with_reducible exact H | (rw [hy217]; exact H) | exact H
          have Ny217 := Aside0.mk hy217
          clear hy217
          have H' := Aside0.mk H
          clear H
          go_wp2_with (first | ((with_reducible refine gate_dst (N := 12) rfl ?_); refine Kd.R_lit (Kd.int .u8) _ 5 ?hg (N := 12) ?hd (xs := ([(Int.tmod x0_1 256) % 256] : List Int)) (inner := [.int .u8 ((Int.tmod x0_1 256) % 256)]) (ok := fun _ => True) (okp := fun _ => True) ?hr ?hp (fun _ hk => hk) trivial (Below.refl _ _) (Nat.le_refl _) (by simp) ?_; (case hd => rfl); (case hg => rfl); (case hr => first | (go_simp; done) | (go_simp; rfl)); (case hp => exact (Reps.one (show Kd.M (Kd.int .u8) _ _ _ ((Int.tmod x0_1 256) % 256) [.int .u8 ((Int.tmod x0_1 256) % 256)] from rfl) (Reps.none _ _))); intro v215 w4 ho5 hb hg_ hnew_; clear hg_ hnew_; (first | rw [← Ny214.out] at ho5 | (simp only [Int.reduceToNat] at ho5; rw [← Ny214.out] at ho5)); have n0_ := Aside0.mk (Kd.R_elder' q5_44 (Kd.R_base ho5) hb); have n1_ := Aside0.mk (Kd.R_lower (Kd.R_new' ho5 (Kd.R_lt q5_44)) (below_size q5_1)); have n2_ := Aside0.mk (below_step q5_1 hb); clear HO_3; clear HB; have HO_3 := n0_; have HO216 := n1_; have HB := n2_; clear n0_ n1_ n2_; clear hb ho5; obtain ⟨Ao7, co7, eo7⟩ := Kd.R_slice HO_3.out; subst eo7) | ((with_reducible refine gate_builtin (b := .append) (xs := #[.tmp 12, .tmp 13]) rfl ?_); at_builtin; refine Kd.R_append_rows (Kd.int .u8) (w0 := w) w.heap.size rfl (.tmp 12) (.tmp 13) 27 5 (.int .u8 0) 1 rfl Try.underlying27 info5 rfl q5_14 q5_45 v215 y214 x3_1 _ _ _ (fun k_ => some k_ ≠ (.slice Ao7 x3_1.length co7 : Value).ownBlock) (fun _ => False) rfl rfl ?aO ?aR (fun _ _ h => h) (fun _ h => h.elim) ?aF ?aB ?aS ?aL ?_; (case aR => repeat (first | exact (Kd.R_reads' HO_3.out).2.2 | (with_reducible refine Kd.C_alloc ?_ _) | (with_reducible refine Kd.C_drewN ?_ _) | (with_reducible refine Kd.C_drew ?_))); (case aB => exact q5_1); (case aF => exact (fun k_ hk => Kd.fresh' (Kd.R_lt q5_44) k_ hk)); (case aO => exact (by (with_reducible repeat (first | apply Kd.R_alloc | apply Kd.R_drewN | apply Kd.R_drew)); exact Kd.R_mono HO216.out (fun _ hk => hk.2))); (case aS => exact (below_size q5_1)); (case aL => have := LMc3.out; omega); intro v218 w6 ho hb hg hat; rw [← Ny217.out] at ho; have n0_ := Aside0.mk (Kd.R_after (ok := (fun _ => True)) q5_44 hg hat); have n1_ := Aside0.mk (hb); have n2_ := Aside0.mk (ho); clear HO_3; clear HB; clear HO216; have HO_3 := n0_; have HB := n1_; have HO219 := n2_; clear n0_ n1_ n2_; clear ho hb hg hat))
          go_roundg k1
          case measure => have := HK1.out; omega
          case rel => exact ⟨(wrap64 (Int.tdiv x0_1 256)), (y217), (wrap64 (x4_1 + 1)), q5_11, q5_11, H', ⟨by have := HK1.out; omega⟩, ⟨by (with_reducible repeat (first | apply Kd.R_alloc | apply Kd.R_drewN | apply Kd.R_drew)); exact Kd.R_mono HO219.out (fun _ hk => trivial)⟩, ⟨by repeat (first | (with_reducible first | exact HB.out | apply below_alloc | apply pw_below_drewN | apply below_drew1) | exact HB.out)⟩⟩
        · rw [if_neg c3] at H
          exact absurd H (by simp)
      · rw [if_neg c2] at H
        have c2b0 : decide (x4_1 < 8) = false := decide_eq_false c2
        clear c2
        obtain rfl := Option.some.inj H
        go_wp2
        go_ret
        exact ⟨_, by first | rfl | (simp [errW_none, errW_some] <;> rfl) | (simp [*, errW_none, errW_some] <;> rfl), by (with_reducible repeat (first | apply Kd.R_alloc | apply Kd.R_drewN | apply Kd.R_drew)); exact HO_3.out, by repeat (first | (with_reducible first | exact HB.out | apply below_alloc | apply pw_below_drewN | apply below_drew1) | exact HB.out)⟩

/-! ### batonref07_More: function 25 -/
mutual
def batonref07_More.l0 : Nat → List Int → Int → Int → Option (Int)
  | 0, _, _, _ => none
  | k + 1, x1, x5, x6 => if x6 < (x1.length : Int) then (if 0 ≤ x6 then (batonref07_More.l1 k x1 (Go.bits .xor .u32 x5 ((rd x1 x6) % 4294967296)) x6 0) else (none)) else (some ((4294967295 - x5) % 4294967296))
def batonref07_More.l1 : Nat → List Int → Int → Int → Int → Option (Int)
  | 0, _, _, _, _ => none
  | k + 1, x1, x5, x6, x7 => if x7 < 8 then (if (Int.tmod x5 2) = 1 then (batonref07_More.l1 k x1 (Go.bits .xor .u32 ((Int.tdiv x5 2) % 4294967296) 2197175160) x6 (wrap64 (x7 + 1))) else (batonref07_More.l1 k x1 ((Int.tdiv x5 2) % 4294967296) x6 (wrap64 (x7 + 1)))) else (batonref07_More.l0 k x1 x5 (wrap64 (x6 + 1)))
end
def batonref07_More.f (k : Nat) (a0 : Int) (l1 : List Int) : Option (Int) := batonref07_More.l0 k l1 ((4294967295 - a0) % 4294967296) 0
theorem batonref07_More.mono_l : ∀ k, (∀ y0 y1 y2, LeO (batonref07_More.l0 k y0 y1 y2) (batonref07_More.l0 (k + 1) y0 y1 y2)) ∧ (∀ y0 y1 y2 y3, LeO (batonref07_More.l1 k y0 y1 y2 y3) (batonref07_More.l1 (k + 1) y0 y1 y2 y3))
  | 0 => ⟨fun _ _ _ r h => by simp [batonref07_More.l0] at h, fun _ _ _ _ r h => by simp [batonref07_More.l1] at h⟩
  | k + 1 => by
    obtain ⟨ih0, ih1⟩ := batonref07_More.mono_l k
    refine ⟨?_, ?_⟩
    · intro y0 y1 y2
      unfold batonref07_More.l0
      repeat' first
      | (with_reducible exact ih0 _ _ _)
      | (with_reducible exact ih1 _ _ _ _)
      | (with_reducible exact LeO.refl _)
      | (with_reducible exact LeO.none _)
      | (with_reducible refine LeO.ite ?_ ?_)
      | (with_reducible refine LeO.bind ?_ (fun _ => ?_))
      | exact ih0 _ _ _
      | exact ih1 _ _ _ _
      | exact LeO.none _
      | refine LeO.ite ?_ ?_
      | refine LeO.bind ?_ (fun _ => ?_)
    · intro y0 y1 y2 y3
      unfold batonref07_More.l1
      repeat' first
      | (with_reducible exact ih0 _ _ _)
      | (with_reducible exact ih1 _ _ _ _)
      | (with_reducible exact LeO.refl _)
      | (with_reducible exact LeO.none _)
      | (with_reducible refine LeO.ite ?_ ?_)
      | (with_reducible refine LeO.bind ?_ (fun _ => ?_))
      | exact ih0 _ _ _
      | exact ih1 _ _ _ _
      | exact LeO.none _
      | refine LeO.ite ?_ ?_
      | refine LeO.bind ?_ (fun _ => ?_)
theorem batonref07_More.mono : ∀ a0 a1 k, LeO (batonref07_More.f k a0 a1) (batonref07_More.f (k + 1) a0 a1) := by
  intro a0 a1 k
  obtain ⟨ih0, ih1⟩ := batonref07_More.mono_l k
  unfold batonref07_More.f
  repeat' first
      | (with_reducible exact ih0 _ _ _)
      | (with_reducible exact ih1 _ _ _ _)
      | (with_reducible exact LeO.refl _)
      | (with_reducible exact LeO.none _)
      | (with_reducible refine LeO.ite ?_ ?_)
      | (with_reducible refine LeO.bind ?_ (fun _ => ?_))
      | exact ih0 _ _ _
      | exact ih1 _ _ _ _
      | exact LeO.none _
      | refine LeO.ite ?_ ?_
      | refine LeO.bind ?_ (fun _ => ?_)
set_option maxHeartbeats 8000000 in
set_option maxRecDepth 100000 in
theorem batonref07_More.calls (k : Nat) (a0 : Int) (A1 : Option Addr) (c1 : Nat) (l1 : List Int) (r : Int) (w : World) (hr1 : Kd.C (Kd.int .u8) w A1 l1.length l1) (hc1 : l1.length ≤ c1) (h : batonref07_More.f k a0 l1 = some r) :
    Calls Try.prog 25 #[.int .u32 a0, .slice A1 l1.length c1] w fun e w' => e = .returned (.int .u32 r) ∧ Drawn0 w w' := by
  have HR1 := Aside0.mk hr1
  have HC1 := Aside0.mk hc1
  clear hr1 hc1
  have H : (batonref07_More.l0 k l1 ((4294967295 - a0) % 4294967296) 0) = some r := h
  clear h
  have H' := Aside0.mk H
  clear H
  go_enter Try.func25, Try.ntmps25
  go_wp2
  go_loopg [5, 6] k (fun kq v5 v6 w' => ∃ (x5_1 : Int) (x6_1 : Int), v5 = .int .u32 x5_1 ∧ v6 = .int .i64 x6_1 ∧ Aside0 (batonref07_More.l0 kq l1 x5_1 x6_1 = some r) ∧ Aside0 (kq ≤ k) ∧ Drawn0 w w')
  case atStart => exact ⟨((4294967295 - a0) % 4294967296), (0), q5_11, q5_11, H', ⟨Nat.le_refl _⟩, by repeat (first | exact Drawn0.refl _ | apply Drawn0.step)⟩
  case round =>
    clear H'
    try clear c1
    try clear c2
    try clear p2
    obtain ⟨x5_1, x6_1, rfl, rfl, HA, HK1, ⟨m1, rfl⟩⟩ := hrel
    cases gk with
    | zero => exact absurd HA.out (by simp [batonref07_More.l0])
    | succ k1 =>
      have H := HA.out
      clear HA
      simp only [batonref07_More.l0] at H
      by_cases c3 : x6_1 < (l1.length : Int)
      · rw [if_pos c3] at H
        have c3b0 : decide (x6_1 < (l1.length : Int)) = true := decide_eq_true c3
        clear c3
        by_cases c4 : 0 ≤ x6_1
        · rw [if_pos c4] at H
          have c4b0 : decide (0 ≤ x6_1) = true := decide_eq_true c4
          clear c4
          have H' := Aside0.mk H
          clear H
          have p220 : 0 ≤ (x6_1 : Int) := of_decide_eq_true q5_12
          have q220 : x6_1 < (l1.length : Int) := of_decide_eq_true q5_12
          obtain ⟨ad220, e220, hx220_0⟩ := Kd.at_int HR1.out x6_1 p220 q220
          cases e220
          replace p220 := eq_true p220
          replace q220 := eq_true q220
          go_wp2
          go_loopg [5, 7] k1 (fun kq v5 v7 w' => ∃ (x5_2 : Int) (x7_2 : Int), v5 = .int .u32 x5_2 ∧ v7 = .int .i64 x7_2 ∧ Aside0 (batonref07_More.l1 kq l1 x5_2 x6_1 x7_2 = some r) ∧ Aside0 (kq ≤ k1) ∧ Drawn0 w w')
          case atStart => exact ⟨(Go.bits .xor .u32 x5_1 ((rd l1 x6_1) % 4294967296)), (0), q5_11, q5_11, H', ⟨Nat.le_refl _⟩, by repeat (first | exact Drawn0.refl _ | apply Drawn0.step)⟩
          case round =>
            clear H'
            try clear c1
            try clear c2
            try clear p2
            try clear q2
            try clear hx2
            try clear c3
            try clear c3b0
            try clear c4
            try clear c4b0
            try clear hx220_0
            try clear p2
            try clear p220
            try clear q220
            obtain ⟨x5_2, x7_2, rfl, rfl, HA, HK2, ⟨m2, rfl⟩⟩ := hrel
            cases gk with
            | zero => exact absurd HA.out (by simp [batonref07_More.l1])
            | succ k2 =>
              have H := HA.out
              clear HA
              simp only [batonref07_More.l1] at H
              by_cases c5 : x7_2 < 8
              · rw [if_pos c5] at H
                have c5b0 : decide (x7_2 < 8) = true := decide_eq_true c5
                clear c5
                by_cases c6 : (Int.tmod x5_2 2) = 1
                · rw [if_pos c6] at H
                  have c6b0 : ((Int.tmod x5_2 2) == 1) = true := beq_iff_eq.mpr c6
                  have c6b1 : ((Int.tmod x5_2 2) != 1) = false := bne_eq_false_iff_eq.mpr c6
                  clear c6
                  have H' := Aside0.mk H
                  clear H
                  go_wp2
                  go_roundg k2
                  case measure => have := HK1.out; have := HK2.out; omega
                  case rel => exact ⟨(Go.bits .xor .u32 ((Int.tdiv x5_2 2) % 4294967296) 2197175160), (wrap64 (x7_2 + 1)), q5_11, q5_11, H', ⟨by have := HK1.out; have := HK2.out; omega⟩, by repeat (first | exact Drawn0.refl _ | apply Drawn0.step)⟩
                · rw [if_neg c6] at H
                  have c6b0 : ((Int.tmod x5_2 2) == 1) = false := beq_eq_false_iff_ne.mpr c6
                  have c6b1 : ((Int.tmod x5_2 2) != 1) = true := bne_iff_ne.mpr c6
                  have H' := Aside0.mk H
                  clear H
                  go_wp2
                  go_roundg k2
                  case measure => have := HK1.out; have := HK2.out; omega
                  case rel => exact ⟨((Int.tdiv x5_2 2) % 4294967296), (wrap64 (x7_2 + 1)), q5_11, q5_11, H', ⟨by have := HK1.out; have := HK2.out; omega⟩, by repeat (first | exact Drawn0.refl _ | apply Drawn0.step)⟩
              · rw [if_neg c5] at H
                have c5b0 : decide (x7_2 < 8) = false := decide_eq_false c5
                clear c5
                have H' := Aside0.mk H
                clear H
                go_wp2
                go_roundg k2
                case measure => have := HK1.out; have := HK2.out; omega
                case rel => exact ⟨(x5_2), (wrap64 (x6_1 + 1)), q5_11, q5_11, H', ⟨by have := HK1.out; have := HK2.out; omega⟩, by repeat (first | exact Drawn0.refl _ | apply Drawn0.step)⟩
        · rw [if_neg c4] at H
          exact absurd H (by simp)
      · rw [if_neg c3] at H
        have c3b0 : decide (x6_1 < (l1.length : Int)) = false := decide_eq_false c3
        clear c3
        obtain rfl := Option.some.inj H
        go_wp2
        go_ret
        exact ⟨by first | rfl | (simp; done) | (simp [*]; done), by repeat (first | exact Drawn0.refl _ | apply Drawn0.step)⟩

/-! ### batonref22_Sum: function 47 -/
def batonref22_Sum.f (k : Nat) (l0 : List Int) : Option (List Int) := (batonref07_More.f k 0 l0).bind fun t221 => (some (([(Int.tmod t221 256) % 256, ((Int.tdiv t221 256) % 4294967296) % 256, ((Int.tdiv t221 65536) % 4294967296) % 256, ((Int.tdiv t221 16777216) % 4294967296) % 256] : List Int)))
theorem batonref22_Sum.mono : ∀ a0 k, LeO (batonref22_Sum.f k a0) (batonref22_Sum.f (k + 1) a0) := by
  intro a0 k
  unfold batonref22_Sum.f
  repeat' first
      | (with_reducible exact batonref07_More.mono _ _ _)
      | (with_reducible exact LeO.refl _)
      | (with_reducible exact LeO.none _)
      | (with_reducible refine LeO.ite ?_ ?_)
      | (with_reducible refine LeO.bind ?_ (fun _ => ?_))
      | exact batonref07_More.mono _ _ _
      | exact LeO.none _
      | refine LeO.ite ?_ ?_
      | refine LeO.bind ?_ (fun _ => ?_)
set_option maxHeartbeats 8000000 in
set_option maxRecDepth 100000 in
theorem batonref22_Sum.calls (k : Nat) (A0 : Option Addr) (c0 : Nat) (l0 : List Int) (r : List Int) (w : World) (hr0 : Kd.C (Kd.int .u8) w A0 l0.length l0) (hc0 : l0.length ≤ c0) (h : batonref22_Sum.f k l0 = some r) :
    Calls Try.prog 47 #[.slice A0 l0.length c0] w fun e w' => ∃ v0_ : Value, e = .returned (v0_) ∧ Kd.R (Kd.int .u8) 5 w' w.heap.size (fun _ => True) v0_ r ∧ Below w.heap.size w w' := by
  have HR0 := Aside0.mk hr0
  have HC0 := Aside0.mk hc0
  clear hr0 hc0
  have HB := Aside0.mk (Below.refl w.heap.size w)
  have H : ((batonref07_More.f k 0 l0).bind fun t221 => (some (([(Int.tmod t221 256) % 256, ((Int.tdiv t221 256) % 4294967296) % 256, ((Int.tdiv t221 65536) % 4294967296) % 256, ((Int.tdiv t221 16777216) % 4294967296) % 256] : List Int)))) = some r := h
  clear h
  replace H := Option.bind_eq_some_iff.mp H
  obtain ⟨t221, A20, H⟩ := H
  replace H : (some (([(Int.tmod t221 256) % 256, ((Int.tdiv t221 256) % 4294967296) % 256, ((Int.tdiv t221 65536) % 4294967296) % 256, ((Int.tdiv t221 16777216) % 4294967296) % 256] : List Int))) = some r := H
  have A2 := Aside0.mk A20
  clear A20
  obtain ⟨y222, hy222⟩ : ∃ y_ : List Int, y_ = (([(Int.tmod t221 256) % 256, ((Int.tdiv t221 256) % 4294967296) % 256, ((Int.tdiv t221 65536) % 4294967296) % 256, ((Int.tdiv t221 16777216) % 4294967296) % 256] : List Int)) := ⟨_, rfl⟩
  replace H : (some y222) = some r := by first | (rw [hy222]; with_reducible exact H) | (have H2_ := (Option.bind_some _ _).symm.trans H; rw [hy222]; with_reducible exact H2_) | (have H2_ := (Option.bind_some _ _).symm.trans H; with_reducible exact H2_) | with_reducible exact H | (rw [hy222]; exact H) | exact H
  have Ny222 := Aside0.mk hy222
  clear hy222
  obtain rfl := Option.some.inj H
  go_enter Try.func47, Try.ntmps47
  go_wp2_with (first | ((with_reducible refine gate_callee (f := 25) rfl ?_); refine goesL_ (some 5) rfl rfl Try.func25 q5_43 rfl #[.int .u32 0, .slice A0 l0.length c0] rfl q5_5 ?_; (with_reducible refine (batonref07_More.calls k 0 _ _ l0 t221 _ ?side1 ?side2 A2.out).mono ?_); (case side1 => repeat (first | exact HR0.out | (with_reducible refine Kd.C_alloc ?_ _) | (with_reducible refine Kd.C_drewN ?_ _) | (with_reducible refine Kd.C_drew ?_))); (case side2 => exact HC0.out); rintro e w' ⟨rfl, ⟨nd, rfl⟩⟩; refine ⟨_, rfl, ?_⟩) | ((with_reducible refine gate_dst (N := 20) rfl ?_); refine Kd.R_lit (Kd.int .u8) _ 5 ?hg (N := 20) ?hd (xs := ([(Int.tmod t221 256) % 256, ((Int.tdiv t221 256) % 4294967296) % 256, ((Int.tdiv t221 65536) % 4294967296) % 256, ((Int.tdiv t221 16777216) % 4294967296) % 256] : List Int)) (inner := [.int .u8 ((Int.tmod t221 256) % 256), .int .u8 (((Int.tdiv t221 256) % 4294967296) % 256), .int .u8 (((Int.tdiv t221 65536) % 4294967296) % 256), .int .u8 (((Int.tdiv t221 16777216) % 4294967296) % 256)]) (ok := fun _ => True) (okp := fun _ => True) ?hr ?hp (fun _ hk => hk) trivial (Below.refl _ _) (Nat.le_refl _) (by simp) ?_; (case hd => rfl); (case hg => rfl); (case hr => first | (go_simp; done) | (go_simp; rfl)); (case hp => exact (Reps.one (show Kd.M (Kd.int .u8) _ _ _ ((Int.tmod t221 256) % 256) [.int .u8 ((Int.tmod t221 256) % 256)] from rfl) (Reps.one (show Kd.M (Kd.int .u8) _ _ _ (((Int.tdiv t221 256) % 4294967296) % 256) [.int .u8 (((Int.tdiv t221 256) % 4294967296) % 256)] from rfl) (Reps.one (show Kd.M (Kd.int .u8) _ _ _ (((Int.tdiv t221 65536) % 4294967296) % 256) [.int .u8 (((Int.tdiv t221 65536) % 4294967296) % 256)] from rfl) (Reps.one (show Kd.M (Kd.int .u8) _ _ _ (((Int.tdiv t221 16777216) % 4294967296) % 256) [.int .u8 (((Int.tdiv t221 16777216) % 4294967296) % 256)] from rfl) (Reps.none _ _)))))); intro v223 w3 ho4 hb hg_ hnew_; clear hg_ hnew_; (first | rw [← Ny222.out] at ho4 | (simp only [Int.reduceToNat] at ho4; rw [← Ny222.out] at ho4)); have n0_ := Aside0.mk (Kd.R_lower ho4 (below_size q5_1)); have n1_ := Aside0.mk (below_step q5_1 hb); clear HB; have HO224 := n0_; have HB := n1_; clear n0_ n1_; clear hb ho4))
  go_ret
  exact ⟨_, by first | rfl | (simp [errW_none, errW_some] <;> rfl) | (simp [*, errW_none, errW_some] <;> rfl), by (with_reducible repeat (first | apply Kd.R_alloc | apply Kd.R_drewN | apply Kd.R_drew)); exact HO224.out, by repeat (first | (with_reducible first | exact HB.out | apply below_alloc | apply pw_below_drewN | apply below_drew1) | exact HB.out)⟩

end Go.Proofs.Ytaiiegbhbadciaa.PF22
