/- Hand-written walks and plain lemmas of sha, hmac, keys: what each Go function comes to. No condition. -/
import Derived.Test.YthpkbamhpmgffaaShaC
import Derived.Test.YthpkbamhpmgffaaLF02
namespace Go.Proofs.Ythpkbamhpmgffaa.Sha
open Go.RowKit Go.Proofs.YthpkbamhpmgffaaW.Hand Go.Proofs.YthpkbamhpmgffaaW.PrintWords Go.Proofs.YthpkbamhpmgffaaW.PrintLast Go.Proofs.YthpkbamhpmgffaaW.PrintMore Go.Proofs.Ythpkbamhpmgffaa.PF02 Go.Proofs.Ythpkbamhpmgffaa.Base Go.Proofs.Ythpkbamhpmgffaa.LF02
set_option linter.unusedVariables false
set_option linter.unusedSimpArgs false

/-- The cells of a Hash. -/
def hcells (h : List Int) (v : Value) (n : Int) : Array Value := (h.map (Value.int .u32) ++ [v, .int .i64 n]).toArray
theorem hcells_size (h : List Int) (v : Value) (n : Int) : (hcells h v n).size = h.length + 2 := by simp [hcells]
theorem eight {h : List Int} (hh : h.length = 8) : ∃ a0 a1 a2 a3 a4 a5 a6 a7, h = [a0, a1, a2, a3, a4, a5, a6, a7] := by
  match h, hh with
  | [a0, a1, a2, a3, a4, a5, a6, a7], _ => exact ⟨_, _, _, _, _, _, _, _, rfl⟩
/-- Bytes that wait in a row of the call's own, which may begin inside its block. -/
def QB (w : World) (base : Nat) (v : Value) (xs : List Int) : Prop := QRow w base 5 1 v xs.length (nums .u8 xs)
theorem QB.nil (w : World) (base : Nat) : QB w base (.slice none 0 0) [] := q_of_own (own_nil w base 5 1)
theorem QB.lt {w : World} {base : Nat} {v : Value} {xs : List Int} (h : QB w base v xs) : ∀ k, v.ownBlock = some k → k < w.heap.size := q_lt h
theorem QB.base {w : World} {base : Nat} {v : Value} {xs : List Int} (h : QB w base v xs) : ∀ k, v.ownBlock = some k → base ≤ k := fun k hk => (q_typed h k hk).1
theorem QB.kept {w W : World} {S : Nat → Prop} {base : Nat} {v : Value} {xs : List Int} (h : QB w base v xs) (hk : Kept w W S) (hS : ∀ k, v.ownBlock = some k → ¬ S k) : QB W base v xs := q_move h (fun k hv => hk.2 k (q_lt h k hv) (hS k hv))
theorem QB.below {w W : World} {base : Nat} {v : Value} {xs : List Int} (h : QB w base v xs) (hb : Below w.heap.size w W) : QB W base v xs := q_move h (fun k hv => hb.block k (q_lt h k hv))
theorem QB.slice {w : World} {base : Nat} {v : Value} {xs : List Int} (h : QB w base v xs) : ∃ A c, v = .slice A xs.length c ∧ xs.length ≤ c := q_slice h
theorem QB.ne {w : World} {base g t : Nat} {v : Value} {xs : List Int} {cur : Array Value} (h : QB w base v xs) (hg : w.heap[g]? = some (.cells cur t (0, 0))) (ht : t ≠ 5) : v.ownBlock ≠ some g := fun e => by
  obtain ⟨_, cells, hc⟩ := q_typed h g e
  rw [hg] at hc
  injection hc with hc
  injection hc with _ hc
  exact ht hc
theorem QB.C {w : World} {base : Nat} {A : Option Addr} {c : Nat} {xs : List Int} (h : QB w base (.slice A xs.length c) xs) : Kd.C (Kd.int .u8) w A xs.length xs := by
  refine ⟨rfl, q_max h, fun hp => ?_⟩
  obtain ⟨ad, rfl, hc⟩ := q_cells h hp
  refine ⟨ad, rfl, fun j p hj => ⟨[.int .u8 p], rfl, rfl, fun i u hu => ?_⟩⟩
  have hi : i = 0 := by
    have := (List.getElem?_eq_some_iff.1 hu).1
    simp at this
    omega
  subst hi
  have e : Value.int .u8 p = u := by simpa using hu
  subst e
  rw [show (Kd.int .u8).sz = 1 from rfl, Nat.mul_one, Nat.add_zero]
  exact hc j _ (by unfold nums; rw [List.getElem?_map, hj]; rfl)
theorem QB.take {w : World} {base m : Nat} {A : Option Addr} {c : Nat} {xs : List Int} (h : QB w base (.slice A xs.length c) xs) (hm : m ≤ xs.length) : QB w base (.slice A m c) (xs.take m) := by
  have := q_take h hm
  unfold QB
  rw [List.length_take, Nat.min_eq_left hm]
  unfold nums at this ⊢
  rwa [Nat.mul_one, ← List.map_take] at this
theorem QB.drop {w : World} {base m : Nat} {A : Option Addr} {c : Nat} {xs : List Int} (h : QB w base (.slice A xs.length c) xs) (hm : m ≤ xs.length) : QB w base (.slice (if c = m then A else A.map (·.add m)) (xs.length - m) (c - m)) (xs.drop m) := by
  have := q_drop h hm
  unfold QB
  rw [List.length_drop]
  unfold nums at this ⊢
  rwa [Nat.mul_one, ← List.map_drop] at this
theorem C_cells0 {k : IntKind} {w : World} {A : Option Addr} {xs : List Int} (h : Kd.C (Kd.int k) w A xs.length xs) (hp : 0 < xs.length) : ∃ ad, A = some ad ∧ ∀ (j : Nat) (v : Value), (nums k xs)[j]? = some v → w.cell? (ad.add j) = some v := C_cells h hp
/-- append(rest, b...): b whatever reads as bytes. -/
theorem QB_run {P : Program} (w : World) (base : Nat) (t ty : TypeId) (ht : P.underlying t = some (.slice 5)) (hinfo : (P.info? 5).map (fun i => (i.zero, i.size, i.bytes)) = some (some (.int .u8 0), 1, 1))
    (v : Value) (xs ys : List Int) (A : Option Addr) (c : Nat) (h : QB w base v xs) (hC : Kd.C (Kd.int .u8) w A ys.length ys) (hl : xs.length + ys.length ≤ 140737488355328) (hbase : base ≤ w.heap.size) :
    ∃ v' w', (Builtin.append_ #[t, t] ty #[v, .slice A ys.length c]).run P w = .ok v' w' ∧ QB w' base v' (xs ++ ys) ∧ w.grownBy w' v.ownBlock ∧ (v'.ownBlock = v.ownBlock ∨ ∃ b, v'.ownBlock = some b ∧ w.heap.size ≤ b) := by
  obtain ⟨i0, hi, hzz⟩ := Option.map_eq_some_iff.1 hinfo
  simp only [Prod.mk.injEq] at hzz
  obtain ⟨hz0, hz1, hz2⟩ := hzz
  rcases Nat.eq_zero_or_pos ys.length with h0 | hp
  · have he : ys = [] := List.eq_nil_of_length_eq_zero h0
    subst he
    obtain ⟨A1, c1, rfl, hle⟩ := h.slice
    refine ⟨_, w, ?_, by simpa using h, World.grownBy.refl w _, .inl rfl⟩
    rcases A with _ | ad
    · rcases A1 with _ | a1
      · simp [Builtin.append_, run_underlying ht, sizeOf, typeInfo, hi, Builtin.lenOf, Builtin.firstCells, hle]
      · simp [Builtin.append_, run_underlying ht, sizeOf, typeInfo, hi, Builtin.lenOf, Builtin.firstCells, hle, storeCells]
    · rcases A1 with _ | a1
      · simp [Builtin.append_, run_underlying ht, sizeOf, typeInfo, hi, Builtin.lenOf, Builtin.firstCells, hle, loadCells, loadCellsFrom]
      · simp [Builtin.append_, run_underlying ht, sizeOf, typeInfo, hi, Builtin.lenOf, Builtin.firstCells, hle, storeCells, loadCells, loadCellsFrom]
  · obtain ⟨ad, rfl, hc⟩ := C_cells0 hC hp
    obtain ⟨v1, w1, hr, hq, hg, hat⟩ := q_append (P := P) w base t ty 5 i0 (.int .u8 0) 1 1 ht hi hz0 hz1 hz2 rfl (by decide) v xs.length (nums .u8 xs) h ad ys.length c (nums .u8 ys) (by rw [nums_length, Nat.mul_one]) hc (by intro u hu; simp [nums] at hu; obtain ⟨x, _, rfl⟩ := hu; rfl) hp (by simp only [maxLen]; omega) (by omega) hbase
    refine ⟨v1, w1, hr, ?_, hg, hat⟩
    unfold QB
    rw [List.length_append, nums_append]
    exact hq
end Go.Proofs.Ythpkbamhpmgffaa.Sha
