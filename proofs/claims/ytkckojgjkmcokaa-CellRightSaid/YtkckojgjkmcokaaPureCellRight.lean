/- The law CellRight, of plain numbers: which cells and pens may be, and what a blank one is, is what the page says. No condition beside the sizes that the row itself gives. -/
import Derived.Test.YtkckojgjkmcokaaLF09R
namespace Go.Proofs.Ytkckojgjkmcokaa.Pure
open Go.RowKit Go.Proofs.Ytkckojgjkmcokaa.Base Go.Proofs.YtkckojgjkmcokaaW.PrintWords Go.Proofs.YtkckojgjkmcokaaW.PrintMore Go.Proofs.Ytkckojgjkmcokaa.PF09R
set_option linter.unusedVariables false
set_option linter.unusedSimpArgs false
open Go.Proofs.Ytkckojgjkmcokaa.LF09R

theorem nums_back : ∀ (a : List Int), Bytes a → (a.map fun n => UInt8.ofNat n.toNat).map (fun u => (u.toNat : Int)) = a
  | [], _ => rfl
  | x :: t, h => by
    have h1 := h x (by simp)
    have h2 := nums_back t (fun y hy => h y (by simp [hy]))
    rw [List.map_cons, List.map_cons, h2]
    congr 1
    simp
    omega
theorem strs {a b : List Int} (ha : Bytes a) (hb : Bytes b) : ((strOfNums a).toList != (strOfNums b).toList) = decide (a ≠ b) := by
  rw [ByteArray.toList_eq, ByteArray.toList_eq, strOfNums_data, strOfNums_data]
  by_cases h : a = b
  · subst h
    simp
  · rw [decide_eq_true h]
    refine bne_iff_ne.2 (fun e => h ?_)
    rw [← nums_back a ha, ← nums_back b hb, e]
def okp (f b m : Int) : Prop := 0 ≤ f ∧ f ≤ 256 ∧ 0 ≤ b ∧ b ≤ 256 ∧ 0 ≤ m ∧ m < 128
instance (f b m : Int) : Decidable (okp f b m) := by unfold okp; infer_instance
theorem Pen_f (a b c : Int) : cell_Pen.f a b c = some (decide (okp a b c)) := by
  unfold cell_Pen.f
  repeat' split
  all_goals first | exact congrArg some (decide_eq_false (by unfold okp; omega)).symm | exact congrArg some (decide_eq_decide.2 ⟨fun h => by unfold okp; omega, fun h => by unfold okp at h; omega⟩)
def okc (c : Int) : Prop := ((32 ≤ c ∧ c ≤ 126) ∨ 160 ≤ c) ∧ sign c
instance (c : Int) : Decidable (okc c) := by unfold okc; infer_instance
theorem enc'_ne (c : Int) (h : ¬ c = 65533) : enc' c ≠ enc' 65533 ↔ sign c := by
  constructor
  · intro hne
    refine Decidable.byContradiction (fun hs => hne ?_)
    unfold enc'
    rw [if_neg hs, if_pos sign65533]
  · intro hs e
    unfold enc' at e
    rw [if_pos hs, if_pos sign65533] at e
    apply h
    rw [← (whenc c hs).2, e]
    rfl
theorem CRight_ev (c f b m : Int) : Ev (fun k => cell_Right.f k c f b m) (decide (okc c ∧ okp f b m)) := by
  have jt : ¬ (okc c ∧ okp f b m) → Ev (fun k => cell_Right.j0 k true c f b m) (decide (okc c ∧ okp f b m)) := fun h => by
    apply ev_succ
    simp only [cell_Right.j0, if_true]
    exact ev_eq (ev_some _) (decide_eq_false h).symm
  have jf : ((32 ≤ c ∧ c ≤ 126) ∨ 160 ≤ c) → okp f b m → Ev (fun k => cell_Right.j0 k false c f b m) (decide (okc c ∧ okp f b m)) := fun h1 h2 => by
    apply ev_succ
    simp only [cell_Right.j0, Bool.false_eq_true, if_false, RBytes_f, Option.bind_some]
    by_cases h3 : c = 65533
    · simp only [if_pos h3]
      exact ev_eq (ev_some _) (decide_eq_true ⟨⟨h1, by rw [h3]; exact sign65533⟩, h2⟩).symm
    · simp only [if_neg h3]
      refine ev_eq (ev_some _) ?_
      rw [strs (enc'_bytes c) (enc'_bytes _)]
      exact decide_eq_decide.2 ((enc'_ne c h3).trans ⟨fun h => ⟨⟨h1, h⟩, h2⟩, fun h => h.1.2⟩)
  have jp : ((32 ≤ c ∧ c ≤ 126) ∨ 160 ≤ c) → Ev (fun k => (cell_Pen.f f b m).bind fun t => cell_Right.j0 k (!t) c f b m) (decide (okc c ∧ okp f b m)) := fun h1 => by
    simp only [Pen_f, Option.bind_some]
    by_cases h2 : okp f b m
    · rw [decide_eq_true h2]
      exact jf h1 h2
    · rw [decide_eq_false h2]
      exact jt (fun h => h2 h.2)
  unfold cell_Right.f
  by_cases c1 : c < 32
  · simp only [if_pos c1]
    exact jt (fun h => by have := h.1.1; omega)
  · by_cases c2 : c > 126
    · by_cases c3 : c < 160
      · simp only [if_neg c1, if_pos c2, if_pos c3]
        exact jt (fun h => by have := h.1.1; omega)
      · simp only [if_neg c1, if_pos c2, if_neg c3]
        exact jp (.inr (by omega))
    · simp only [if_neg c1, if_neg c2]
      exact jp (.inl (by omega))
theorem RRight_f (c f b m : Int) (h0 : -2147483648 ≤ c) (h1 : c ≤ 2147483647) : batonref09_Right.f c f b m = some (decide (okc c ∧ okp f b m)) := by
  unfold batonref09_Right.f
  rw [w64 (x := c) (by omega) (by omega)]
  simp only [Sign_f, Option.bind_some]
  repeat' split
  all_goals first | exact congrArg some (decide_eq_false (fun h => by have := h.1.1; have h2 := h.2; unfold okp at h2; omega)).symm | exact congrArg some (decide_eq_decide.2 ⟨fun h => ⟨⟨by omega, h⟩, by unfold okp; omega⟩, fun h => h.1.2⟩)
theorem CellRight : batonlaw09_CellRight.Pure := by
  intro c f b m hc hf hb hm
  have hr := bounds_i32 hc
  refine Ev.rounds ?_
  unfold batonlaw09_CellRight.f
  refine ev_bind awake09 ?_
  simp only [if_true, cell_Blank.f, Option.bind_some]
  refine ev_bind (CRight_ev c f b m) ?_
  simp only [RRight_f c f b m hr.1 (by omega), Option.bind_some, beq_self_eq_true, if_true, Pen_f, RRight_f 97 f b m (by omega) (by omega)]
  have e : decide (okp f b m) = decide (okc 97 ∧ okp f b m) := decide_eq_decide.2 ⟨fun h => ⟨by decide, h⟩, fun h => h.2⟩
  simp only [e, beq_self_eq_true, if_true]
  exact ev_eq (ev_some _) (by simp)

end Go.Proofs.Ytkckojgjkmcokaa.Pure
