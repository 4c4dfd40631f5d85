/- Small lemmas for the contracts that are written by hand: a nil slice that reads as a list, a new row that reads as a list. No condition. -/
import Derived.Test.YtaiiegbhbadciaaWMore
import Derived.Test.YtaiiegbhbadciaaWWords
import Derived.Test.YtaiiegbhbadciaaWLast
import Derived.Test.YtaiiegbhbadciaaWZeros
import Derived.WalkSpells
import Derived.Lib.SliceRun
import Derived.Lib.SlBytesConst
namespace Go.Proofs.YtaiiegbhbadciaaW.Hand
open Go.RowKit Go.Proofs.YtaiiegbhbadciaaW.PrintWords Go.Proofs.YtaiiegbhbadciaaW.PrintMore
set_option linter.unusedVariables false

theorem C_none {α : Type} {d : Kd α} {w : World} {n : Nat} {xs : List α} (h : Kd.C d w none n xs) : xs = [] := by
  rcases Nat.eq_zero_or_pos n with h0 | h0
  · exact List.length_eq_zero_iff.1 (h.1.trans h0)
  · obtain ⟨ad, e, _⟩ := h.2.2 h0
    cases e
/-- A new block of whole numbers, marked or not, reads as a list. -/
theorem C_new (W : World) (k : IntKind) (e : TypeId) (fr : Nat × Nat) (xs : List Int) (cs : Array Value) (hcs : cs = (xs.map (Value.int k)).toArray) (hm : xs.length ≤ 9223372036854775807) :
    Kd.C (Kd.int k) (W.alloc (.cells cs e fr)) (some ⟨W.heap.size, 0, none⟩) xs.length xs := by
  subst hcs
  refine ⟨rfl, hm, fun _ => ⟨_, rfl, fun j p hj => ⟨[.int k p], rfl, rfl, fun i u hi => ?_⟩⟩⟩
  have hi0 : i = 0 := by
    have := (List.getElem?_eq_some_iff.1 hi).1
    simp at this
    omega
  subst hi0
  have hu : Value.int k p = u := by simpa using hi
  subst hu
  have h1 : (Addr.mk W.heap.size 0 none).add (j * (Kd.int k).sz + 0) = ⟨W.heap.size, j, none⟩ := by rw [add_plain]; show (⟨_, j * 1 + 0, none⟩ : Addr) = _; rw [Nat.mul_one, Nat.add_zero]
  rw [h1]
  have hb : (W.alloc (.cells (xs.map (Value.int k)).toArray e fr)).heap[W.heap.size]? = some (.cells (xs.map (Value.int k)).toArray e fr) := heap_alloc_new W _
  rw [cell_of_row _ _ j _ e fr hb]
  simp [hj]
end Go.Proofs.YtaiiegbhbadciaaW.Hand
