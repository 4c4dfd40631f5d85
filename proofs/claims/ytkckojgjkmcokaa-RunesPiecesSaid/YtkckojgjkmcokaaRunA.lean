/- runes.Valid: a walk over the signs of a text. No condition. -/
import Derived.Test.YtkckojgjkmcokaaGenT
import Derived.Laws.RangeAny
import Derived.Lib.DecodeN
namespace Go.Proofs.Ytkckojgjkmcokaa.Sha
open Go.AnyFacts Go.RowKit Go.Proofs.YtkckojgjkmcokaaW.Hand Go.Proofs.YtkckojgjkmcokaaW.PrintWords Go.Proofs.YtkckojgjkmcokaaW.PrintLast Go.Proofs.YtkckojgjkmcokaaW.PrintMore Go.Proofs.Ytkckojgjkmcokaa.PF08T Go.Proofs.Ytkckojgjkmcokaa.Base Go.Proofs.Ytkckojgjkmcokaa.LF08T
set_option linter.unusedVariables false
set_option linter.unusedSimpArgs false

/-! ### range over a string -/
theorem L_next {P : Program} {ops : Array Oper} {rest : List Oper} {o : Oper} {a : Act} {W : World} {Q : Exit → Act → World → Prop} (hgd : o.guard = none) (x : Operand) (ho : o.op = .next x true) (g : Nat) (hx : a.eval x = .pointer (some ⟨g, 0, none⟩)) (s : ByteArray) (pos : Nat) (hg : W.heap[g]? = some (.stringIter s pos)) (hp : pos < s.size)
    (h : ∀ w', w'.heap[g]? = some (.stringIter s (pos + (Utf8.decode s pos).2)) → Upd W w' g → wpList P ops Q rest (a.put o.dst (.tuple #[.bool true, .int .i64 pos, .int .i32 ((Utf8.decode s pos).1 : Nat)])) w') : wpList P ops Q (o :: rest) a W := by
  have hlt : g < W.heap.size := (Array.getElem?_eq_some_iff.1 hg).1
  refine Kd.event_run hgd (v := .tuple #[.bool true, .int .i64 pos, .int .i32 ((Utf8.decode s pos).1 : Nat)]) (w1 := { W with heap := W.heap.setIfInBounds g (.stringIter s (pos + (Utf8.decode s pos).2)) }) ?_ (h _ ?_ ⟨rfl, rfl, rfl, by simp, fun k hk => ?_⟩)
  · simp [execOp, ho, hx, Instr.next, getObj, setObj, Sem.run_bind, Sem.run, hg, Result.andThen, hp, goInt]
  · simp [hlt]
  · show (W.heap.setIfInBounds g _)[k]? = _
    rw [Array.getElem?_setIfInBounds_ne (fun e => hk e.symm)]
theorem L_over {P : Program} {ops : Array Oper} {rest : List Oper} {o : Oper} {a : Act} {W : World} {Q : Exit → Act → World → Prop} (hgd : o.guard = none) (x : Operand) (ho : o.op = .next x true) (g : Nat) (hx : a.eval x = .pointer (some ⟨g, 0, none⟩)) (s : ByteArray) (pos : Nat) (hg : W.heap[g]? = some (.stringIter s pos)) (hp : ¬ pos < s.size)
    (h : wpList P ops Q rest (a.put o.dst (.tuple #[.bool false])) W) : wpList P ops Q (o :: rest) a W := by
  refine Kd.event_run hgd (v := .tuple #[.bool false]) (w1 := W) ?_ h
  simp [execOp, ho, hx, Instr.next, getObj, Sem.run, hg, hp]
/-- Is a text signs alone, from a place on, where the next one must begin at another place? -/
def vd (s : ByteArray) : Nat → Nat → Int → Option Bool
  | 0, _, _ => none
  | n + 1, pos, at' => if pos < s.size then (if (pos : Int) = at' then (if (Utf8.decode s pos).1 = 65533 then ((runes_broken.f (s.extract pos s.size)).bind fun b => if b = true then vd s n (pos + (Utf8.decode s pos).2) ((pos : Int) + (enc' ((Utf8.decode s pos).1 : Nat)).length) else some false) else vd s n (pos + (Utf8.decode s pos).2) ((pos : Int) + (enc' ((Utf8.decode s pos).1 : Nat)).length)) else some false) else some (decide (at' = (s.size : Int)))
set_option maxHeartbeats 8000000 in
set_option maxRecDepth 100000 in
theorem Valid_calls (s : ByteArray) (k : Nat) (r : Bool) (w : World) (hs : s.size ≤ 1000000) (h : vd s k 0 0 = some r) : Calls Try.prog 28 #[.string s] w fun e w' => e = .returned (.bool r) ∧ Below w.heap.size w w' := by
  have H' := Aside0.mk h
  clear h
  go_enter Try.func28, Try.ntmps28
  go_wp2
  go_loopg [3] k (fun kq v3 wr => ∃ (pos : Nat) (at_ : Int), v3 = .int .i64 at_ ∧ Aside0 (vd s kq pos at_ = some r) ∧ Aside0 (kq ≤ k) ∧ Aside0 (wr.heap[w.heap.size]? = some (.stringIter s pos) ∧ Below w.heap.size w wr ∧ (pos : Int) ≤ 9000000 ∧ -9000000 ≤ at_ ∧ at_ ≤ 9000000))
  case atStart => exact ⟨0, 0, rfl, H', ⟨Nat.le_refl _⟩, ⟨World.iter_heap w s 0, (Below.refl _ _).alloc (Nat.le_refl _) _, by omega, by omega, by omega⟩⟩
  case round =>
    clear H'
    obtain ⟨pos, at_, rfl, HA, HK1, HR⟩ := hrel
    cases gk with
    | zero => exact absurd HA.out (by simp [vd])
    | succ k1 =>
      have H := HA.out
      clear HA
      simp only [vd] at H
      by_cases hp : pos < s.size
      · rw [if_pos hp] at H
        have hd := decode_le s pos
        obtain ⟨c, hc⟩ : ∃ c, c = (Utf8.decode s pos).1 := ⟨_, rfl⟩
        obtain ⟨W_, hW⟩ : ∃ W_, W_ = (Utf8.decode s pos).2 := ⟨_, rfl⟩
        rw [← hc, ← hW] at H
        rw [← hc] at hd
        have HN := Aside0.mk (show ∀ {ops : Array Oper} {rest : List Oper} {o : Oper} {a : Act} {Q : Exit → Act → World → Prop} (hgd : o.guard = none) (x : Operand) (ho : o.op = .next x true) (hx : a.eval x = .pointer (some ⟨w.heap.size, 0, none⟩)) (h : ∀ w', w'.heap[w.heap.size]? = some (.stringIter s (pos + W_)) → Upd wr w' w.heap.size → wpList Try.prog ops Q rest (a.put o.dst (.tuple #[.bool true, .int .i64 pos, .int .i32 (c : Nat)])) w'), wpList Try.prog ops Q (o :: rest) a wr from by
          intro ops rest o a Q hgd x ho hx h
          refine L_next hgd x ho w.heap.size hx s pos HR.out.1 hp ?_
          rw [← hc, ← hW]
          exact h)
        have HWL := Aside0.mk (show W_ ≤ 4 from by
          rw [hW]
          simp only [Utf8.decode]
          repeat' split
          all_goals simp)
        have HEL := Aside0.mk enc'_len
        clear hc hW
        by_cases hat : (pos : Int) = at_
        · subst hat
          rw [if_pos rfl] at H
          by_cases h5 : c = 65533
          · subst h5
            rw [if_pos rfl] at H
            obtain ⟨b, hb, H⟩ := Option.bind_eq_some_iff.1 H
            have HBR := Aside0.mk hb
            clear hb
            cases b with
            | false =>
              rw [if_neg (by decide)] at H
              obtain rfl := Option.some.inj H
              clear H
              go_wp2_with (first | (with_reducible refine gate_dst (N := 8) rfl ?_; refine HN.out rfl (.tmp 7) rfl rfl ?_; intro w2 hw2 hu2; have HW2 := Aside0.mk hw2; have HU2 := Aside0.mk hu2; clear hw2 hu2) | (go_at_call 65; refine (runes_broken.calls _ false _ HBR.out).mono ?_; rintro e w4 ⟨rfl, ⟨nd, rfl⟩⟩))
              go_ret
              exact ⟨rfl, pw_below_drewN (HU2.out.below HR.out.2.1 (Nat.le_refl _)) nd⟩
            | true =>
              rw [if_pos rfl] at H
              have H' := Aside0.mk H
              clear H
              go_wp2_with (first | (with_reducible refine gate_dst (N := 8) rfl ?_; refine HN.out rfl (.tmp 7) rfl rfl ?_; intro w2 hw2 hu2; have HW2 := Aside0.mk hw2; have HU2 := Aside0.mk hu2; clear hw2 hu2) | (go_at_call 65; refine (runes_broken.calls _ true _ HBR.out).mono ?_; rintro e w4 ⟨rfl, ⟨nd, rfl⟩⟩) | (go_at_call 19; refine (runes_Bytes.calls (((65533 : Nat) : Int)) (enc' (((65533 : Nat) : Int))) _ (RBytes_f _)).mono ?_; rintro e w3 ⟨v3, rfl, hv3, hb3⟩; obtain ⟨A3, c3, rfl⟩ := Kd.V_slice hv3; have HB3 := Aside0.mk hb3; clear hb3 hv3))
              go_roundg k1
              case measure => have := HK1.out; omega
              case rel =>
                have hl := HEL.out (((65533 : Nat) : Int))
                have hw := HWL.out
                refine ⟨pos + W_, (pos : Int) + (enc' (((65533 : Nat) : Int))).length, (by show Value.int .i64 (wrap64 ((pos : Int) + ((enc' (((65533 : Nat) : Int))).length : Int))) = _; rw [show wrap64 ((pos : Int) + ((enc' (((65533 : Nat) : Int))).length : Int)) = (pos : Int) + ((enc' (((65533 : Nat) : Int))).length : Int) by unfold wrap64; omega]), H', ⟨by have := HK1.out; omega⟩, ⟨(HB3.out.block _ (by first | exact blk_lt HW2.out | exact blk_lt HW2.out)).trans HW2.out, below_step (pw_below_drewN (HU2.out.below HR.out.2.1 (Nat.le_refl _)) nd) HB3.out, by omega, by omega, by omega⟩⟩
          · rw [if_neg h5] at H
            have H' := Aside0.mk H
            clear H
            have hb1 : (((c : Nat) : Int) == 65533) = false := beq_eq_false_iff_ne.2 (by omega)
            go_wp2_with (first | (with_reducible refine gate_dst (N := 8) rfl ?_; refine HN.out rfl (.tmp 7) rfl rfl ?_; intro w2 hw2 hu2; have HW2 := Aside0.mk hw2; have HU2 := Aside0.mk hu2; clear hw2 hu2) | (go_at_call 19; refine (runes_Bytes.calls (((c : Nat) : Int)) (enc' (((c : Nat) : Int))) _ (RBytes_f _)).mono ?_; rintro e w3 ⟨v3, rfl, hv3, hb3⟩; obtain ⟨A3, c3, rfl⟩ := Kd.V_slice hv3; have HB3 := Aside0.mk hb3; clear hb3 hv3))
            go_roundg k1
            case measure => have := HK1.out; omega
            case rel =>
              have hl := HEL.out (((c : Nat) : Int))
              have hw := HWL.out
              refine ⟨pos + W_, (pos : Int) + (enc' (((c : Nat) : Int))).length, (by show Value.int .i64 (wrap64 ((pos : Int) + ((enc' (((c : Nat) : Int))).length : Int))) = _; rw [show wrap64 ((pos : Int) + ((enc' (((c : Nat) : Int))).length : Int)) = (pos : Int) + ((enc' (((c : Nat) : Int))).length : Int) by unfold wrap64; omega]), H', ⟨by have := HK1.out; omega⟩, ⟨(HB3.out.block _ (by first | exact blk_lt HW2.out | exact blk_lt HW2.out)).trans HW2.out, below_step (HU2.out.below HR.out.2.1 (Nat.le_refl _)) HB3.out, by omega, by omega, by omega⟩⟩
        · rw [if_neg hat] at H
          obtain rfl := Option.some.inj H
          clear H
          have hb1 : ((pos : Int) != at_) = true := bne_iff_ne.2 hat
          have hb2 : ((pos : Int) == at_) = false := beq_eq_false_iff_ne.2 hat
          go_wp2_with (first | (with_reducible refine gate_dst (N := 8) rfl ?_; refine HN.out rfl (.tmp 7) rfl rfl ?_; intro w2 hw2 hu2; have HW2 := Aside0.mk hw2; have HU2 := Aside0.mk hu2; clear hw2 hu2))
          go_ret
          exact ⟨rfl, HU2.out.below HR.out.2.1 (Nat.le_refl _)⟩
      · rw [if_neg hp] at H
        obtain rfl := Option.some.inj H
        clear H
        have HN := Aside0.mk (show ∀ {ops : Array Oper} {rest : List Oper} {o : Oper} {a : Act} {Q : Exit → Act → World → Prop} (hgd : o.guard = none) (x : Operand) (ho : o.op = .next x true) (hx : a.eval x = .pointer (some ⟨w.heap.size, 0, none⟩)) (h : wpList Try.prog ops Q rest (a.put o.dst (.tuple #[.bool false])) wr), wpList Try.prog ops Q (o :: rest) a wr from
          fun hgd x ho hx h => L_over hgd x ho w.heap.size hx s pos HR.out.1 hp h)
        go_wp2_with ((with_reducible refine gate_dst (N := 8) rfl ?_; refine HN.out rfl (.tmp 7) rfl rfl ?_))
        go_ret
        exact ⟨by first | rfl | (congr 2; rw [Bool.eq_iff_iff]; simp), HR.out.2.1⟩
end Go.Proofs.Ytkckojgjkmcokaa.Sha
