/- (*Lines).Clear, by hand: no line is left. No condition beside those that the statements give. -/
import Derived.Test.YtgnbhomdkchcfaaDoorPF15Px0
import Derived.Test.YtgnbhomdkchcfaaDoorPF15Px1
import Derived.Test.YtgnbhomdkchcfaaDoorPF15Px2
import Derived.Test.YtgnbhomdkchcfaaDoorPF15Px3
import Derived.Test.YtgnbhomdkchcfaaDoorPF15Px4
import Derived.Test.YtgnbhomdkchcfaaDoorPF15Px5
import Derived.Lib.SliceRun
namespace Go.Proofs.YtgnbhomdkchcfaaDoor.PF15P
open Go.RowKit Go.Proofs.YtgnbhomdkchcfaaDoorW.Hand Go.Proofs.YtgnbhomdkchcfaaDoorW.PrintWords Go.Proofs.YtgnbhomdkchcfaaDoorW.PrintLast Go.Proofs.YtgnbhomdkchcfaaDoorW.PrintMore
attribute [local go_sem] max2_int min2_int max_two min_two max_three min_three max_four min_four
set_option linter.unusedVariables false
set_option linter.unusedSimpArgs false

theorem run_clear_none (A : Option Addr) (c ty : Nat) (w : World) : (Builtin.clear_ #[30] ty #[.slice A 0 c]).run Tryd.prog w = .ok (.tuple #[]) w := by
  have hv : ∀ w, (zeroValue 22).run Tryd.prog w = .ok (.slice none 0 0) w := fun _ => rfl
  cases A <;> simp [Builtin.clear_, run_underlying Tryd.underlying30, hv]
theorem BSt.cleared {B g h M first n lost : Nat} {ring : List (List S28)} {rv : Value} {w : World} (s : BSt B g h M first n lost ring rv w) (hM : 0 < M) : BSt B g h M first n lost (List.replicate M []) rv (w.setCells h 0 (List.replicate M (.slice none 0 0))) ∧ Stp B g h w (w.setCells h 0 (List.replicate M (.slice none 0 0))) := by
  obtain ⟨cells, h1, h2, h3⟩ := s.rows hM
  have hgh := s.gh.2 hM
  obtain ⟨cur, e1, e2, e3⟩ := setCells_row (List.replicate M (Value.slice none 0 0)) 0 w cells h1 (by simp; omega)
  obtain ⟨s1, s2, s3, s4⟩ := setCells_same h (List.replicate M (Value.slice none 0 0)) 0 w
  have hfar := fun k hk => setCells_far (g := h) (List.replicate M (Value.slice none 0 0)) 0 (w := w) k hk
  refine ⟨⟨s.rvf, (hfar g hgh.2).trans s.blk, List.length_replicate, s.gh, fun _ => ⟨cur, e1, by rw [e2]; exact h2, fun i hi => ?_⟩⟩, ⟨⟨s1, s2, s3, Nat.le_of_eq s4.symm, fun k hk => hfar k (by omega)⟩, ⟨Nat.le_of_eq s4.symm, fun k _ hn => hfar k (fun e => hn (.inr e))⟩⟩⟩
  rw [List.length_replicate] at hi
  refine ⟨none, 0, ?_, by rw [List.getElem_replicate]; exact Nat.le_refl _, fun W' _ => ⟨rfl, by rw [List.getElem_replicate]; decide, fun h => absurd h (by rw [List.getElem_replicate]; decide)⟩⟩
  rw [← Array.getElem?_toList, e3, List.take_zero, List.nil_append, List.getElem?_append_left (by rw [List.length_replicate]; exact hi), List.getElem?_replicate, if_pos hi, List.getElem_replicate]
  rfl
set_option maxHeartbeats 8000000 in
set_option maxRecDepth 100000 in
theorem BSt.Clear_calls {B g h M first n lost : Nat} {ring : List (List S28)} {rv : Value} {w : World} (s : BSt B g h M first n lost ring rv w) (hB : B ≤ w.heap.size) : Calls Tryd.prog 17 #[.pointer (some ⟨g, 0, none⟩)] w fun e w' => e = .returned (.tuple #[]) ∧ (∃ ring', BSt B g h M 0 0 lost ring' rv w') ∧ Stp B g h w w' := by
  by_cases hM : 0 < M
  · obtain ⟨A0, c, rfl, hA⟩ := s.rvf
    obtain rfl := hA hM
    have hg0 := s.cell0
    obtain ⟨hs1, hp1⟩ := s.cleared hM
    have hclr := fun ty => Lib.run_clear_slice (P := Tryd.prog) w 30 22 ty (.slice none 0 0) Tryd.underlying30 (fun _ => rfl) rfl rfl h 0 M c hM (fun j hj => by rw [Nat.zero_add]; obtain ⟨v, hv⟩ := s.hcell hM j hj; rw [hv]; rfl) (fun j hj => s.hfrozen hM _)
    generalize w.setCells h 0 (List.replicate M (.slice none 0 0)) = W at hs1 hp1 hclr
    have hx1 := hs1.cell1
    have hx2 := hs1.cell2
    have hf1 : W.frozen? ⟨g, 1, none⟩ = false := blk_frozen hs1.blk 1
    have hf2 : W.frozen? ⟨g, 2, none⟩ = false := blk_frozen hs1.blk 2
    have HS := Aside0.mk hs1
    have HP := Aside0.mk hp1
    have HG := Aside0.mk s.gh.1
    generalize (first : Int) = zf at hx1
    generalize (n : Int) = zn at hx2
    clear s hA hs1 hp1
    go_enter Tryd.func17, Tryd.ntmps17
    go_wp2
    first | ((try simp only [Exit.inBlock, Exit.then]); refine bodyPost_ret (results_none rfl _ _ _) rfl ?_) | go_end0
    exact ⟨rfl, ⟨_, (HS.out.set (first' := 0) 1 _ rfl).set (n' := 0) 2 _ rfl⟩, (HP.out.setg HG.out 1 _).setg HG.out 2 _⟩
  · obtain rfl : M = 0 := by omega
    obtain ⟨A0, c, rfl, hA⟩ := s.rvf
    have hg0 := s.cell0
    have hclr := fun ty => run_clear_none A0 c ty w
    have hx1 := s.cell1
    have hx2 := s.cell2
    have hf1 : w.frozen? ⟨g, 1, none⟩ = false := blk_frozen s.blk 1
    have hf2 : w.frozen? ⟨g, 2, none⟩ = false := blk_frozen s.blk 2
    have HS := Aside0.mk s
    generalize (first : Int) = zf at hx1
    generalize (n : Int) = zn at hx2
    clear s hA
    go_enter Tryd.func17, Tryd.ntmps17
    go_wp2
    first | ((try simp only [Exit.inBlock, Exit.then]); refine bodyPost_ret (results_none rfl _ _ _) rfl ?_) | go_end0
    exact ⟨rfl, ⟨_, (HS.out.set (first' := 0) 1 _ rfl).set (n' := 0) 2 _ rfl⟩, ((Stp.refl B g h w).setg HS.out.gh.1 1 _).setg HS.out.gh.1 2 _⟩

end Go.Proofs.YtgnbhomdkchcfaaDoor.PF15P
