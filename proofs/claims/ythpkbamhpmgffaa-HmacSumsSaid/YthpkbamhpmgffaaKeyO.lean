/- Hand-written walks and plain lemmas: what each Go function comes to (AnyOps2). No condition. -/
import Derived.Test.YthpkbamhpmgffaaKeyOne
namespace Go.AnyFacts
open Go Go.RowKit Go.Proofs.YthpkbamhpmgffaaW.Hand Go.Proofs.YthpkbamhpmgffaaW.PrintWords Go.Proofs.YthpkbamhpmgffaaW.PrintLast Go.Proofs.YthpkbamhpmgffaaW.PrintMore Go.Proofs.Ythpkbamhpmgffaa.PF02 Go.Proofs.Ythpkbamhpmgffaa.Base Go.Proofs.Ythpkbamhpmgffaa.LF02 Go.Proofs.Ythpkbamhpmgffaa.Sha
set_option linter.unusedVariables false
set_option linter.unusedSimpArgs false
section
variable {P : Program} {ops : Array Oper} {Q : Exit → Act → World → Prop} {t : Nat → Value → World → Prop} {fresh : Nat → Bool} {i : Nat} {o : Oper} {a : Act} {w : World}
/-- The whole of an array, as a slice. -/
theorem A_cutarr (hw : Region.wanted o (yielded ops a.tmps) = true) (ty e : TypeId) (n : Nat) (x : Operand) (ho : o.op = .slice ty x none none none) (ht : P.underlying ty = some (.array n e)) (hsz : (P.info? e).map (·.size) = some 1) (g : Nat) (hx : a.eval x = .pointer (some ⟨g, 0, none⟩))
    (hv : t i (.slice (some ⟨g, 0, none⟩) n n) w) (hf : fresh i = false) : Step ops t fresh P Q i o a w := by
  refine A_value hw _ ?_ hv hf
  cases hq : P.info? e with
  | none => simp [hq] at hsz
  | some ii =>
    have hs : ii.size = 1 := by simpa [hq] using hsz
    simp [execOp, ho, hx, Instr.sliceAt, Instr.sureAddr, Instr.sliceBounds, run_underlying ht, sizeOf, typeInfo, hq, Addr.add_lit]
theorem A_ixarr (hw : Region.wanted o (yielded ops a.tmps) = true) (ty e : TypeId) (n : Nat) (x y : Operand) (ho : o.op = .indexAddr ty x y) (ht : P.underlying ty = some (.array n e)) (hsz : (P.info? e).map (·.size) = some 1) (g : Nat) (hx : a.eval x = .pointer (some ⟨g, 0, none⟩)) (k : Nat) (hy : a.eval y = .int .i64 (k : Int)) (hk : k < n)
    (hv : t i (.pointer (some ⟨g, k, none⟩)) w) (hf : fresh i = false) : Step ops t fresh P Q i o a w := by
  refine A_value hw _ ?_ hv hf
  cases hq : P.info? e with
  | none => simp [hq] at hsz
  | some ii =>
    have hs : ii.size = 1 := by simpa [hq] using hsz
    simp [execOp, ho, hx, hy, Instr.indexAt, Instr.sureAddr, asIntOf, run_underlying ht, sizeOf, typeInfo, hq, hs, Addr.add_lit]
    omega
theorem A_loadcell (hw : Region.wanted o (yielded ops a.tmps) = true) (ty : TypeId) (x : Operand) (ho : o.op = .load ty x) (k : IntKind) (ht : P.underlying ty = some (.int k)) (ad : Addr) (hx : a.eval x = .pointer (some ad)) (v : Value) (hc : w.cell? ad = some v)
    (hv : t i v w) (hf : fresh i = false) : Step ops t fresh P Q i o a w := by
  refine A_value hw _ ?_ hv hf
  simp [execOp, ho, hx, Instr.loadAt, Instr.sureAddr, loadVar, isAgg, run_underlying ht, run_load, hc]
/-- '!=' of two arrays of numbers. -/
theorem A_nearr (hw : Region.wanted o (yielded ops a.tmps) = true) (ty e : TypeId) (n : Nat) (k : IntKind) (x y : Operand) (ty2 : TypeId) (ho : o.op = .binOp .neq ty x y ty2) (ht : P.underlying ty = some (.array n e)) (he : P.underlying e = some (.int k)) (hsz : (P.info? e).map (·.size) = some 1) (hm : P.eqGuardType P.depth ty = false)
    (xs ys : List Int) (hx : a.eval x = .agg (arr k xs)) (hy : a.eval y = .agg (arr k ys)) (hlx : xs.length = n) (hly : ys.length = n) (b : Bool) (hb : decide (xs = ys) = b) (hv : t i (.bool (!b)) w) (hf : fresh i = false) : Step ops t fresh P Q i o a w := by
  refine A_value hw (.bool (!b)) ?_ hv hf
  have h1 : (binOp .neq ty (.agg (arr k xs)) (.agg (arr k ys))).run P w = .ok (.bool (!b)) w := by
    have := run_equalIn_arr (P := P) w 9998 ty e n k ht he hsz xs ys hlx hly
    rw [hb] at this
    simp [binOp, Op.equal, Op.maxDepth, this]
  simp [execOp, ho, hx, hy, run_eqGuard_agg w .neq ty x y (arr k xs) (arr k ys) hm, h1]
end
end Go.AnyFacts

