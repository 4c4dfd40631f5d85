/- Hand-written walks and plain lemmas of sha, hmac, keys: what each Go function comes to. No condition. -/
import Derived.Test.YthpkbamhpmgffaaShaD
namespace Go.Proofs.Ythpkbamhpmgffaa.Sha
open Go.RowKit Go.Proofs.YthpkbamhpmgffaaW.Hand Go.Proofs.YthpkbamhpmgffaaW.PrintWords Go.Proofs.YthpkbamhpmgffaaW.PrintLast Go.Proofs.YthpkbamhpmgffaaW.PrintMore Go.Proofs.Ythpkbamhpmgffaa.PF02 Go.Proofs.Ythpkbamhpmgffaa.Base Go.Proofs.Ythpkbamhpmgffaa.LF02
set_option linter.unusedVariables false
set_option linter.unusedSimpArgs false
section
variable {P : Program} {ops : Array Oper} {rest : List Oper} {o : Oper} {a : Act} {W : World} {Q : Exit → Act → World → Prop}
/-- A store of one or more cells at place i of a block that is known whole. -/
theorem L_storeo (hgd : o.guard = none) (hd : o.dst = none) (ty : TypeId) (x y : Operand) (ho : o.op = .store ty x y) (g i : Nat) (hx : a.eval x = .pointer (some ⟨g, i, none⟩)) (u : Value) (hy : a.eval y = u)
    (cs : Array Value) (hcs : u.cells = cs) (hi : (P.info? ty).map (·.size) = some cs.size) (cur : Array Value) (t : TypeId) (hg : W.heap[g]? = some (.cells cur t (0, 0))) (hfit : i + cs.size ≤ cur.size) (h1 : cs.all (·.oneCell') = true)
    (new : Array Value) (hnew : (cur.toList.take i ++ cs.toList ++ cur.toList.drop (i + cs.size)).toArray = new)
    (h : ∀ w', w'.heap[g]? = some (.cells new t (0, 0)) → Upd W w' g → wpList P ops Q rest a w') : wpList P ops Q (o :: rest) a W := by
  subst hcs
  have hst := run_storeCells_at P g i t u.cells.toList 0 cur W hg (by simpa using hfit) (fun v hv => (Array.all_eq_true_iff_forall_mem.1 h1) v (by simpa using hv))
  simp only [Nat.add_zero, Array.length_toList, hnew] at hst
  refine wpList_plain hgd fun K hK => ?_
  unfold Oper.wp execOp
  cases hq : P.info? ty with
  | none => simp [hq] at hi
  | some ii =>
    have hs : u.cells.size = ii.size := by simp [hq] at hi; omega
    have hrun : (Instr.storeAt ty (.pointer (some ⟨g, i, none⟩)) u).run P W = .ok () (W.setRow g new) := by
      simp [Instr.storeAt, Instr.sureAddr, storeVar, sizeOf, typeInfo, hq, hs, hst]
    simp only [ho, hx, hy, Sem.run_bind, hrun, Result.andThen_ok, Sem.run_pure]
    refine hK _ _ ?_
    rw [hd]
    exact h _ (setRow_heap W g cur new t (0, 0) hg) ⟨rfl, rfl, rfl, setRow_size W g new, fun k hk => setRow_other W g k new hk⟩
theorem L_append (hgd : o.guard = none) (s x : Operand) (t : TypeId) (ho : o.op = .call { callee := .builtin .append, args := #[s, x], argTypes := #[t, t] }) (ht : P.underlying t = some (.slice 5)) (hinfo : (P.info? 5).map (fun i => (i.zero, i.size, i.bytes)) = some (some (.int .u8 0), 1, 1))
    (base : Nat) (v : Value) (xs ys : List Int) (A : Option Addr) (c : Nat) (hs : a.eval s = v) (hx : a.eval x = .slice A ys.length c) (hQ : QB W base v xs) (hC : Kd.C (Kd.int .u8) W A ys.length ys) (hl : xs.length + ys.length ≤ 140737488355328) (hbase : base ≤ W.heap.size)
    (h : ∀ v' w', QB w' base v' (xs ++ ys) → W.grownBy w' v.ownBlock → (v'.ownBlock = v.ownBlock ∨ ∃ b, v'.ownBlock = some b ∧ W.heap.size ≤ b) → wpList P ops Q rest (a.put o.dst v') w') : wpList P ops Q (o :: rest) a W := by
  obtain ⟨v', w', hr, h1, h2, h3⟩ := QB_run W base t o.type ht hinfo v xs ys A c hQ hC hl hbase
  refine wpList_plain hgd fun K hK => ?_
  unfold Oper.wp execOp
  simp only [ho, resolve, invoke, builtin, Sem.run_bind, Sem.run_pure, Result.andThen_ok, List.map_toArray, List.map_cons, List.map_nil, hs, hx, hr]
  exact hK _ _ (h v' w' h1 h2 h3)
end
theorem Upd.kept {w w' : World} {g : Nat} (h : Upd w w' g) {S : Nat → Prop} (hg : S g) : Kept w w' S := ⟨by rw [h.size]; exact Nat.le_refl _, fun k _ hn => h.block k (fun e => hn (e ▸ hg))⟩
theorem grown_kept {w w' : World} {row : Option Nat} (h : w.grownBy w' row) : Kept w w' (fun k => row = some k) := ⟨h.size, fun k hk hn => h.block k hk (fun e => hn e.symm)⟩

/-- What a row of bytes is after its whole blocks: the words, and the bytes that are left. -/
def cmpB (h b : List Int) : List Int := comp h (wordsL b)
def eat (h l : List Int) : Nat → List Int
  | 0 => h
  | i + 1 => cmpB (eat h l i) ((l.drop (64 * i)).take 64)
theorem comp_length (h ws : List Int) : (comp h ws).length = h.length := by
  unfold comp addW
  rw [List.length_map, List.length_zip, rnds_length, Nat.min_self]
theorem eat_length (h l : List Int) (i : Nat) : (eat h l i).length = h.length := by
  induction i with
  | zero => rfl
  | succ i ih => rw [eat, cmpB, comp_length, ih]
theorem Words64 (b : List Int) (hb : Bytes b) (h64 : b.length = 64) : (∃ k, word_Words.f k b = some (wordsL b, 0)) ∧ (wordsL b).length = 16 := by
  refine ⟨?_, words_len 16 (by omega)⟩
  have := (Words_ev b hb (by omega)).rounds
  rwa [wordsSpec, if_pos (by omega)] at this
theorem RoundsB_calls (h : List Int) (hh : h.length = 8) (A : Option Addr) (c : Nat) (b : List Int) (hb : Bytes b) (h64 : b.length = 64) (w : World) (hC : Kd.C (Kd.int .u8) w A b.length b) (hcc : b.length ≤ c) :
    Calls Try.prog 14 #[.agg (arr .u32 h), .slice A b.length c] w fun e w' => e = .returned (.tuple #[.agg (arr .u32 (cmpB h b)), .int .i64 0]) ∧ Below w.heap.size w w' := by
  obtain ⟨⟨k, hk⟩, h16⟩ := Words64 b hb h64
  exact Rounds_calls k h hh A c b h64 (wordsL b) hk h16 w hC hcc
end Go.Proofs.Ythpkbamhpmgffaa.Sha
