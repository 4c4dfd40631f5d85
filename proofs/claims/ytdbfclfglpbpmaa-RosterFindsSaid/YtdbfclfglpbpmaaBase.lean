/- Plain lemmas on numbers, lists and rounds, used by the pure statements of this seat. No condition. -/
import Derived.Test.YtdbfclfglpbpmaaWMore
import Derived.Test.YtdbfclfglpbpmaaWWords
import Derived.Laws.BitsAllLaws
import Derived.Laws.Bits64
import Derived.OpenShut
namespace Go.Proofs.Ytdbfclfglpbpmaa.Base
open Go.RowKit Go.Proofs.YtdbfclfglpbpmaaW.PrintWords Go.Proofs.YtdbfclfglpbpmaaW.PrintMore
set_option linter.unusedVariables false
set_option linter.unusedSimpArgs false

/-! ### rounds -/
theorem ev_succ {α : Type} {g : Nat → Option α} {r : α} (h : Ev (fun k => g (k + 1)) r) : Ev g r := Ev.step (fun _ => rfl) h
theorem ev_some {α : Type} (r : α) : Ev (fun _ => some r) r := Ev.now r
theorem ev_bind {α β : Type} {g : Nat → Option α} {f : Nat → α → Option β} {a : α} {r : β} (h : Ev g a) (k : Ev (fun n => f n a) r) : Ev (fun n => (g n).bind (f n)) r := Ev.bind h k
theorem ev_bind1 {α β : Type} {g : Option α} {f : Nat → α → Option β} {a : α} {r : β} (h : g = some a) (k : Ev (fun n => f n a) r) : Ev (fun n => g.bind (f n)) r := by
  subst h
  exact k
theorem ev_eq {α : Type} {g : Nat → Option α} {r r' : α} (h : Ev g r) (e : r = r') : Ev g r' := e ▸ h

/-! ### whole numbers -/
theorem w64 {x : Int} (h1 : -9223372036854775808 ≤ x) (h2 : x ≤ 9223372036854775807) : wrap64 x = x := by unfold wrap64; omega
theorem u64 {x : Int} (h1 : 0 ≤ x) (h2 : x ≤ 18446744073709551615) : IntKind.u64.wrap x = x := by rw [IntKind.wrap_u64]; omega
theorem u64m (x : Int) : IntKind.u64.wrap x = x % 18446744073709551616 := IntKind.wrap_u64 x
theorem rd_lt {xs : List Int} {i : Nat} (h : i < xs.length) : rd xs (i : Int) = xs[i] := by
  unfold rd
  simp [List.getD_eq_getElem?_getD, h]
theorem rd_mem {xs : List Int} {i : Int} (h0 : 0 ≤ i) (h : i < xs.length) : rd xs i ∈ xs := by
  obtain ⟨n, rfl⟩ := Int.eq_ofNat_of_zero_le h0
  have hn : n < xs.length := by omega
  rw [rd_lt hn]
  exact List.getElem_mem hn
theorem byte_rd {xs : List Int} (hw : ∀ x ∈ xs, (Lit.int .u8 x).wf = true) {i : Int} (h0 : 0 ≤ i) (h : i < xs.length) : 0 ≤ rd xs i ∧ rd xs i ≤ 255 := bounds_u8 (hw _ (rd_mem h0 h))
theorem word_rd {xs : List Int} (hw : ∀ x ∈ xs, (Lit.int .u32 x).wf = true) {i : Int} (h0 : 0 ≤ i) (h : i < xs.length) : 0 ≤ rd xs i ∧ rd xs i ≤ 4294967295 := bounds_u32 (hw _ (rd_mem h0 h))
def Bytes (xs : List Int) : Prop := ∀ x ∈ xs, 0 ≤ x ∧ x ≤ 255
theorem bytes_of {xs : List Int} (hw : ∀ x ∈ xs, (Lit.int .u8 x).wf = true) : Bytes xs := fun x hx => bounds_u8 (hw x hx)
theorem Bytes.rd {xs : List Int} (hw : Bytes xs) {i : Int} (h0 : 0 ≤ i) (h : i < xs.length) : 0 ≤ Go.Proofs.YtdbfclfglpbpmaaW.PrintWords.rd xs i ∧ Go.Proofs.YtdbfclfglpbpmaaW.PrintWords.rd xs i ≤ 255 := hw _ (rd_mem h0 h)
theorem Bytes.append {xs ys : List Int} (h : Bytes xs) (k : Bytes ys) : Bytes (xs ++ ys) := fun x hx => (List.mem_append.1 hx).elim (h x) (k x)
theorem Bytes.drop {xs : List Int} (h : Bytes xs) (n : Nat) : Bytes (xs.drop n) := fun x hx => h x (List.mem_of_mem_drop hx)
theorem Bytes.take {xs : List Int} (h : Bytes xs) (n : Nat) : Bytes (xs.take n) := fun x hx => h x (List.mem_of_mem_take hx)
theorem and_i64_31 (n : Int) : Go.bits .and .i64 n 31 = n % 32 := by
  unfold bits
  have h : (BitVec.ofInt IntKind.i64.bits n &&& BitVec.ofInt IntKind.i64.bits 31).toNat = (n % 32).toNat := by
    show (BitVec.ofInt 64 n &&& BitVec.ofInt 64 31).toNat = (n % 32).toNat
    have h31 : (BitVec.ofInt 64 31).toNat = 2 ^ 5 - 1 := by decide
    rw [BitVec.toNat_and, h31, Nat.and_two_pow_sub_one_eq_mod, BitVec.toNat_ofInt]
    omega
  simp only [h]
  rw [IntKind.wrap_i64]
  omega
theorem and_u64_31 {n : Int} (h0 : 0 ≤ n) (h1 : n ≤ 18446744073709551615) : Go.bits .and .u64 n 31 = n % 32 := by
  rw [u64_and n 31 h0 (by omega) (by decide) (by decide)]
  have := nat_mask5 n.toNat
  simp only [Int.reduceToNat]
  rw [this]
  omega
/-- Two whose bits don't meet. -/
theorem or_u32_join {x y : Int} (i : Nat) (hx0 : 0 ≤ x) (hx1 : x ≤ 4294967295) (hx : x % 2 ^ i = 0) (hy0 : 0 ≤ y) (hy1 : y ≤ 4294967295) (hy : y < 2 ^ i) : Go.bits .or .u32 x y = x + y := by
  refine bits_join .u32 32 (by decide) (fun n h0 h1 => ?_) i x y hx0 hx (by omega) hy0 hy (by omega)
  rw [IntKind.wrap_u32]
  omega
theorem or_u64_join {x y : Int} (i : Nat) (hx0 : 0 ≤ x) (hx1 : x ≤ 18446744073709551615) (hx : x % 2 ^ i = 0) (hy0 : 0 ≤ y) (hy1 : y ≤ 18446744073709551615) (hy : y < 2 ^ i) : Go.bits .or .u64 x y = x + y := by
  refine bits_join .u64 64 (by decide) (fun n h0 h1 => ?_) i x y hx0 hx (by omega) hy0 hy (by omega)
  rw [IntKind.wrap_u64]
  omega
end Go.Proofs.Ytdbfclfglpbpmaa.Base
