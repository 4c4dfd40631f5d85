/- By a program of this session (wip/tool/pp.py): plain Lean functions of the Go functions that this family of laws uses, the walks that the Go code comes to their answers, and the row of the law. No condition beside those that the row itself gives. -/
import Derived.Test.YthcpfkkddfgamaaPF39Fx0
namespace Go.Proofs.Ythcpfkkddfgamaa.PF39F
open Go.RowKit Go.Proofs.YthcpfkkddfgamaaW.Hand Go.Proofs.YthcpfkkddfgamaaW.PrintWords Go.Proofs.YthcpfkkddfgamaaW.PrintLast Go.Proofs.YthcpfkkddfgamaaW.PrintMore
attribute [local go_sem] max2_int min2_int max_two min_two max_three min_three max_four min_four   -- for this text's walks alone
set_option linter.unusedVariables false
set_option linter.unusedSimpArgs false

/-! ### bag_Find: functions 73, 72, 71, 33 (by hand) -/
def idxOf (p : S50 → Bool) : List S50 → Int → Int
  | [], _ => -1
  | x :: t, i => if p x = true then i else idxOf p t (i + 1)
set_option maxHeartbeats 8000000 in
set_option maxRecDepth 100000 in
theorem bag_Find_eq.calls (A0 : Option Addr) (c0 : Nat) (l0 : List Int) (A1 : Option Addr) (c1 : Nat) (l1 : List Int) (w : World) (hr0 : Kd.C (Kd.int .u8) w A0 l0.length l0) (hr1 : Kd.C (Kd.int .u8) w A1 l1.length l1) :
    Calls Try.prog 73 #[.slice A0 l0.length c0, .slice A1 l1.length c1] w fun e w' => e = .returned (.bool (decide (l0 = l1))) ∧ Drawn0 w w' := by
  have HM := Aside0.mk hr0.2.1
  have HR0 := Aside0.mk hr0
  have HR1 := Aside0.mk hr1
  clear hr0 hr1
  by_cases c3 : (l0.length : Int) = (l1.length : Int)
  · have c3b0 : ((l0.length : Int) == (l1.length : Int)) = true := beq_iff_eq.mpr c3
    have c3b1 : ((l0.length : Int) != (l1.length : Int)) = false := bne_eq_false_iff_eq.mpr c3
    have HE := Aside0.mk c3
    clear c3
    go_enter Try.func73, Try.ntmps73
    go_wp2
    repeat (go_quiet (fail); try go_wp2)
    clear c3b0 c3b1
    go_loopg [13] l0.length (fun gg v13 w' => ∃ (x : Int), v13 = .int .i64 x ∧ Aside0 (0 ≤ x ∧ x ≤ (l0.length : Int)) ∧ Aside0 (((l0.length : Int) - x).toNat ≤ gg) ∧ Aside0 (decide (l0 = l1) = decide (l0.drop x.toNat = l1.drop x.toNat)) ∧ Drawn0 w w')
    case atStart => exact ⟨0, rfl, ⟨by omega⟩, ⟨by omega⟩, ⟨rfl⟩, by repeat (first | exact Drawn0.refl _ | apply Drawn0.step)⟩
    case round =>
      obtain ⟨x, rfl, HX, HG, HI, ⟨m1, rfl⟩⟩ := hrel
      by_cases hlt : x < (l0.length : Int)
      · have b0 : decide (x < (l0.length : Int)) = true := decide_eq_true hlt
        have hlt1 : x < (l1.length : Int) := by have := HE.out; omega
        obtain ⟨ad0, e0, hx0⟩ := Kd.at_int HR0.out x HX.out.1 hlt
        cases e0
        obtain ⟨ad1, e1, hx1⟩ := Kd.at_int HR1.out x HX.out.1 hlt1
        cases e1
        have hn0 : x.toNat < l0.length := by have := HX.out.1; omega
        have hn1 : x.toNat < l1.length := by have := HX.out.1; omega
        have hy0 : rd l0 x = l0[x.toNat] := by
          unfold rd
          simp [List.getD_eq_getElem?_getD, hn0]
        have hy1 : rd l1 x = l1[x.toNat] := by
          unfold rd
          simp [List.getD_eq_getElem?_getD, hn1]
        have HD := Aside0.mk (show decide (l0 = l1) = decide (rd l0 x = rd l1 x ∧ l0.drop (x.toNat + 1) = l1.drop (x.toNat + 1)) from HI.out.trans (decide_eq_decide.2 (by rw [hy0, hy1, List.drop_eq_getElem_cons hn0, List.drop_eq_getElem_cons hn1]; exact List.cons_eq_cons)))
        have px : (0 ≤ x) = True := eq_true HX.out.1
        have qx : (x < (l0.length : Int)) = True := eq_true hlt
        have qy : (x < (l1.length : Int)) = True := eq_true hlt1
        have HL := Aside0.mk hlt
        clear hlt hlt1 hn0 hn1 hy0 hy1
        generalize rd l0 x = y0 at hx0 HD
        generalize rd l1 x = y1 at hx1 HD
        by_cases c8 : y0 = y1
        · have c8b0 : (y0 == y1) = true := beq_iff_eq.mpr c8
          have c8b1 : (y0 != y1) = false := bne_eq_false_iff_eq.mpr c8
          have HY := Aside0.mk c8
          clear c8
          go_wp2
          repeat (go_quiet (fail); try go_wp2)
          go_roundg (((l0.length : Int) - (x + 1)).toNat)
          case measure => have := HG.out; have := HL.out; omega
          case rel =>
            have hw : wrap64 (x + 1) = x + 1 := by have := HL.out; have := HX.out.1; have := HM.out; unfold wrap64; omega
            have h1 := HX.out.1
            have h2 := HL.out
            refine ⟨wrap64 (x + 1), (by first | rfl | (simp; done) | (simp [*]; done)), ⟨by rw [hw]; omega⟩, ⟨by rw [hw]; exact Nat.le_refl _⟩, ⟨?_⟩, by repeat (first | exact Drawn0.refl _ | apply Drawn0.step)⟩
            rw [hw, HD.out, show (x + 1).toNat = x.toNat + 1 by omega]
            exact decide_eq_decide.2 ⟨fun h => h.2, fun h => ⟨HY.out, h⟩⟩
        · have c8b0 : (y0 == y1) = false := beq_eq_false_iff_ne.mpr c8
          have c8b1 : (y0 != y1) = true := bne_iff_ne.mpr c8
          have HY := Aside0.mk c8
          clear c8
          go_wp2
          repeat (go_quiet (fail); try go_wp2)
          go_ret
          refine ⟨?_, by repeat (first | exact Drawn0.refl _ | apply Drawn0.step)⟩
          rw [HD.out, decide_eq_false (fun h => HY.out h.1)]
          rfl
      · have b0 : decide (x < (l0.length : Int)) = false := decide_eq_false hlt
        have HL := Aside0.mk hlt
        clear hlt
        go_wp2
        repeat (go_quiet (fail); try go_wp2)
        go_ret
        refine ⟨?_, by repeat (first | exact Drawn0.refl _ | apply Drawn0.step)⟩
        have h1 := HX.out
        have h2 := HL.out
        have h3 := HE.out
        rw [HI.out, List.drop_of_length_le (by omega), List.drop_of_length_le (by omega)]
        rfl
  · have c3b0 : ((l0.length : Int) == (l1.length : Int)) = false := beq_eq_false_iff_ne.mpr c3
    have c3b1 : ((l0.length : Int) != (l1.length : Int)) = true := bne_iff_ne.mpr c3
    have HE := Aside0.mk c3
    clear c3
    go_enter Try.func73, Try.ntmps73
    go_wp2
    repeat (go_quiet (fail); try go_wp2)
    go_ret
    refine ⟨?_, by repeat (first | exact Drawn0.refl _ | apply Drawn0.step)⟩
    rw [decide_eq_false (fun h => HE.out (by rw [h]))]
    rfl
set_option maxHeartbeats 8000000 in
set_option maxRecDepth 100000 in
theorem bag_Find_1.calls (to_ : Int) (A1 : Option Addr) (c1 : Nat) (b : List Int) (B0 B1 : Nat) (w : World) (hB0 : B0 < w.heap.size) (hB1 : B1 < w.heap.size) (hcell0 : w.cell? ⟨B0, 0, none⟩ = some (.int .i64 to_)) (hcell1 : w.cell? ⟨B1, 0, none⟩ = some (.slice A1 b.length c1)) (hr1 : Kd.C (Kd.int .u8) w A1 b.length b)
    (W : World) (x : S50) (A3 : Option Addr) (c3 : Nat) (hr3 : Kd.C (Kd.int .u8) w A3 x.f3.length x.f3) (hb : Below w.heap.size w W) :
    Calls Try.prog 72 (#[.agg #[.int .i64 x.f0, .int .i64 x.f1, .int .i64 x.f2, .slice A3 x.f3.length c3]] ++ #[.pointer (some ⟨B0, 0, none⟩), .pointer (some ⟨B1, 0, none⟩)]) W fun e w' => e = .returned (.bool (x.f1 == to_ && decide (x.f3 = b))) ∧ Below w.heap.size w w' := by
  have hc0 : W.cell? ⟨B0, 0, none⟩ = some (.int .i64 to_) := (hb.cell (p := ⟨B0, 0, none⟩) hB0).trans hcell0
  have hc1 : W.cell? ⟨B1, 0, none⟩ = some (.slice A1 b.length c1) := (hb.cell (p := ⟨B1, 0, none⟩) hB1).trans hcell1
  have hBW0 : B0 < W.heap.size := Nat.lt_of_lt_of_le hB0 hb.size
  have hBW1 : B1 < W.heap.size := Nat.lt_of_lt_of_le hB1 hb.size
  have hne0 : B0 ≠ W.heap.size := by omega
  have hne1 : B1 ≠ W.heap.size := by omega
  have HQ := Aside0.mk (fun (V : World) (hV : Below w.heap.size w V) => bag_Find_eq.calls A3 c3 x.f3 A1 c1 b V (Kd.C_below hr3 hV) (Kd.C_below hr1 hV))
  have HB := Aside0.mk hb
  clear hr1 hr3 hb
  show Calls Try.prog 72 #[.agg #[.int .i64 x.f0, .int .i64 x.f1, .int .i64 x.f2, .slice A3 x.f3.length c3], .pointer (some ⟨B0, 0, none⟩), .pointer (some ⟨B1, 0, none⟩)] W _
  by_cases c : x.f1 = to_
  · have cb : (x.f1 == to_) = true := beq_iff_eq.mpr c
    clear c
    go_enter Try.func72, Try.ntmps72
    go_wp2_with (go_at_call 73; refine (HQ.out _ (by repeat (first | exact HB.out | apply Below.drew | refine Below.alloc ?_ HB.out.size _ | apply pw_below_drewN))).mono ?_; rintro e w1 ⟨rfl, ⟨n1, rfl⟩⟩)
    go_ret
    exact ⟨by first | rfl | simp [cb], by repeat (first | exact HB.out | apply Below.drew | refine Below.alloc ?_ HB.out.size _ | apply pw_below_drewN)⟩
  · have cb : (x.f1 == to_) = false := beq_eq_false_iff_ne.mpr c
    clear c
    go_enter Try.func72, Try.ntmps72
    go_wp2
    go_ret
    exact ⟨by first | rfl | simp [cb], by repeat (first | exact HB.out | apply Below.drew | refine Below.alloc ?_ HB.out.size _ | apply pw_below_drewN)⟩
set_option maxHeartbeats 8000000 in
set_option maxRecDepth 100000 in
theorem bag_Find_ix.calls (lb : Array Value) (p : S50 → Bool) (eg : ∀ args w, (callFunc 72 args).run Try.prog w = .ok (.enter 72 args) w) (A0 : Option Addr) (c0 : Nat) (l0 : List S50) (w : World) (hr0 : Kd.C k50 w A0 l0.length l0) (hm0 : l0.length ≤ 9223372036854775807)
    (hp : ∀ (W : World) (x : S50) (A3 : Option Addr) (c3 : Nat), Kd.C (Kd.int .u8) w A3 x.f3.length x.f3 → Below w.heap.size w W → Calls Try.prog 72 (#[.agg #[.int .i64 x.f0, .int .i64 x.f1, .int .i64 x.f2, .slice A3 x.f3.length c3]] ++ lb) W fun e w' => e = .returned (.bool (p x)) ∧ Below w.heap.size w w') :
    Calls Try.prog 71 #[.slice A0 l0.length c0, .func (.func 72) #[] lb] w fun e w' => e = .returned (.int .i64 (idxOf p l0 0)) ∧ Below w.heap.size w w' := by
  have hu50 := Try.underlying50
  have HR0 := Aside0.mk hr0
  have HP := Aside0.mk hp
  have HM := Aside0.mk hm0
  clear hr0 hp hm0
  have HB := Aside0.mk (Below.refl w.heap.size w)
  go_enter Try.func71, Try.ntmps71
  go_wp2
  go_loopg [5, 8] l0.length (fun gg _ v8 w' => ∃ (x : Int), v8 = .int .i64 x ∧ Aside0 (0 ≤ x ∧ x ≤ (l0.length : Int)) ∧ Aside0 (((l0.length : Int) - x).toNat ≤ gg) ∧ Aside0 (idxOf p l0 0 = idxOf p (l0.drop x.toNat) x) ∧ Aside0 (Below w.heap.size w w'))
  case atStart => exact ⟨0, rfl, ⟨by omega⟩, ⟨by omega⟩, ⟨rfl⟩, HB⟩
  case round =>
    obtain ⟨x, rfl, HX, HG, HI, HB⟩ := hrel
    by_cases hlt : x < (l0.length : Int)
    · have b0 : decide (x < (l0.length : Int)) = true := decide_eq_true hlt
      obtain ⟨ad, A3, c3, e1, hx0, hx1, hx2, hx3, hl3, hi3⟩ := at_T50 HR0.out x HX.out.1 hlt
      cases e1
      replace hx0 := (HB.out.cell (World.block_lt_of_cell? w _ hx0)).trans hx0
      replace hx1 := (HB.out.cell (World.block_lt_of_cell? w _ hx1)).trans hx1
      replace hx2 := (HB.out.cell (World.block_lt_of_cell? w _ hx2)).trans hx2
      replace hx3 := (HB.out.cell (World.block_lt_of_cell? w _ hx3)).trans hx3
      have hnat : x.toNat < l0.length := by have := HX.out.1; omega
      have hy : rd_T50 l0 x = l0[x.toNat] := by
        unfold rd_T50
        simp [List.getD_eq_getElem?_getD, hnat]
      have HD := Aside0.mk (show idxOf p l0 0 = if p (rd_T50 l0 x) = true then x else idxOf p (l0.drop (x.toNat + 1)) (x + 1) from by rw [HI.out, List.drop_eq_getElem_cons hnat, hy]; rfl)
      have hcall := HP.out _ (rd_T50 l0 x) A3 c3 hi3 HB.out
      have HL := Aside0.mk hlt
      have px : (0 ≤ x) = True := eq_true HX.out.1
      have qx : (x < (l0.length : Int)) = True := eq_true hlt
      clear hy hnat hlt hl3 hi3
      generalize rd_T50 l0 x = y at hx0 hx1 hx2 hx3 hcall HD
      cases hq : p y with
      | true =>
        rw [hq] at hcall
        go_wp2_with (go_at_call 72; refine hcall.mono ?_; rintro e w' ⟨rfl, hb'⟩)
        go_ret
        refine ⟨?_, hb'⟩
        rw [HD.out, if_pos hq]
        rfl
      | false =>
        rw [hq] at hcall
        go_wp2_with (go_at_call 72; refine hcall.mono ?_; rintro e w' ⟨rfl, hb'⟩)
        go_roundg (((l0.length : Int) - (x + 1)).toNat)
        case measure => have := HG.out; have := HL.out; omega
        case rel =>
          have hw : wrap64 (x + 1) = x + 1 := by have := HL.out; have := HX.out.1; have := HM.out; unfold wrap64; omega
          have h1 := HX.out.1
          have h2 := HL.out
          refine ⟨wrap64 (x + 1), (by first | rfl | (simp; done) | (simp [*]; done)), ⟨by rw [hw]; omega⟩, ⟨by rw [hw]; exact Nat.le_refl _⟩, ⟨?_⟩, ⟨hb'⟩⟩
          rw [hw, HD.out, if_neg (by rw [hq]; decide), show (x + 1).toNat = x.toNat + 1 by omega]
    · have b0 : decide (x < (l0.length : Int)) = false := decide_eq_false hlt
      go_wp2
      go_ret
      refine ⟨?_, HB.out⟩
      have h1 := HX.out
      rw [HI.out, List.drop_of_length_le (by omega)]
      rfl
def bag_Find.f (l0 : List S50) (a1 : Int) (l2 : List Int) : Option Int := some (idxOf (fun x => x.f1 == a1 && decide (x.f3 = l2)) l0 0)
set_option maxHeartbeats 8000000 in
set_option maxRecDepth 100000 in
theorem bag_Find.calls (A0 : Option Addr) (c0 : Nat) (l0 : List S50) (a1 : Int) (A2 : Option Addr) (c2 : Nat) (l2 : List Int) (r : Int) (w : World) (hr0 : Kd.C k50 w A0 l0.length l0) (hc0 : l0.length ≤ c0) (hr2 : Kd.C (Kd.int .u8) w A2 l2.length l2) (hc2 : l2.length ≤ c2) (h : bag_Find.f l0 a1 l2 = some r) :
    Calls Try.prog 33 #[.slice A0 l0.length c0, .int .i64 a1, .slice A2 l2.length c2] w fun e w' => e = .returned (.int .i64 r) ∧ Below w.heap.size w w' := by
  have hu50 := Try.underlying50
  have hm := hr0.2.1
  have eg : ∀ args w, (callFunc 72 args).run Try.prog w = .ok (.enter 72 args) w := enters_of Try.func72 (by kernel_rfl) rfl
  have hW : Below w.heap.size w ((w.alloc (.cells #[.int .i64 a1] 3)).alloc (.cells #[.slice A2 l2.length c2] 28)) := ((Below.refl w.heap.size w).alloc (Nat.le_refl _) _).alloc (by simp) _
  have hcon := bag_Find_ix.calls #[.pointer (some ⟨w.heap.size, 0, none⟩), .pointer (some ⟨w.heap.size + 1, 0, none⟩)] (fun x => x.f1 == a1 && decide (x.f3 = l2)) eg A0 c0 l0 ((w.alloc (.cells #[.int .i64 a1] 3)).alloc (.cells #[.slice A2 l2.length c2] 28)) (Kd.C_below hr0 hW) hm
    (fun W x A3 c3 h3 hb => bag_Find_1.calls a1 A2 c2 l2 w.heap.size (w.heap.size + 1) _ (by simp; omega) (by simp) (by simp) (by simp) (Kd.C_below hr2 hW) W x A3 c3 h3 hb)
  have hmf : ∀ (fn : Fn) (first cap : Array Value) (w : World), (Instr.makeFunc fn first cap).run Try.prog w = .ok (.func fn first cap) w := fun _ _ _ _ => rfl
  unfold bag_Find.f at h
  obtain rfl := Option.some.inj h
  have HW := Aside0.mk hW
  clear h hr0 hc0 hr2 hc2 hm eg hW
  go_enter Try.func33, Try.ntmps33
  go_wp2_with (go_at_call 71; refine hcon.mono ?_; rintro e w1 ⟨rfl, hb⟩; have HB := Aside0.mk (HW.out.trans (hb.mono (by simp; omega))); clear hb)
  go_ret
  exact ⟨rfl, HB.out⟩

/-! ### batonref39_Find: function 34 -/
def batonref39_Find.l0 : Nat → List (S108) → Int → List Int → Int → Option (Int)
  | 0, _, _, _, _ => none
  | k + 1, x0, x1, x2, x7 => if x7 < (x0.length : Int) then (if 0 ≤ x7 then (if ((rd_T108 x0 x7).f1) = x1 then (if (strOfNums ((rd_T108 x0 x7).f3)).toList = (strOfNums x2).toList then (some x7) else (batonref39_Find.l0 k x0 x1 x2 (wrap64 (x7 + 1)))) else (batonref39_Find.l0 k x0 x1 x2 (wrap64 (x7 + 1)))) else (none)) else (some (-1))
def batonref39_Find.f (k : Nat) (l0 : List (S108)) (a1 : Int) (l2 : List Int) : Option (Int) := batonref39_Find.l0 k l0 a1 l2 0
theorem batonref39_Find.mono_l : ∀ k, (∀ y0 y1 y2 y3, LeO (batonref39_Find.l0 k y0 y1 y2 y3) (batonref39_Find.l0 (k + 1) y0 y1 y2 y3))
  | 0 => fun _ _ _ _ r h => by simp [batonref39_Find.l0] at h
  | k + 1 => by
    have ih0 := batonref39_Find.mono_l k
    · intro y0 y1 y2 y3
      unfold batonref39_Find.l0
      repeat' first
      | (with_reducible exact ih0 _ _ _ _)
      | (with_reducible exact LeO.refl _)
      | (with_reducible exact LeO.none _)
      | (with_reducible refine LeO.ite ?_ ?_)
      | (with_reducible refine LeO.bind ?_ (fun _ => ?_))
      | exact ih0 _ _ _ _
      | exact LeO.none _
      | refine LeO.ite ?_ ?_
      | refine LeO.bind ?_ (fun _ => ?_)
theorem batonref39_Find.mono : ∀ a0 a1 a2 k, LeO (batonref39_Find.f k a0 a1 a2) (batonref39_Find.f (k + 1) a0 a1 a2) := by
  intro a0 a1 a2 k
  have ih0 := batonref39_Find.mono_l k
  unfold batonref39_Find.f
  repeat' first
      | (with_reducible exact ih0 _ _ _ _)
      | (with_reducible exact LeO.refl _)
      | (with_reducible exact LeO.none _)
      | (with_reducible refine LeO.ite ?_ ?_)
      | (with_reducible refine LeO.bind ?_ (fun _ => ?_))
      | exact ih0 _ _ _ _
      | exact LeO.none _
      | refine LeO.ite ?_ ?_
      | refine LeO.bind ?_ (fun _ => ?_)
set_option maxHeartbeats 8000000 in
set_option maxRecDepth 100000 in
theorem batonref39_Find.calls (k : Nat) (A0 : Option Addr) (c0 : Nat) (l0 : List (S108)) (a1 : Int) (A2 : Option Addr) (c2 : Nat) (l2 : List Int) (r : Int) (w : World) (hr0 : Kd.C k108 w A0 l0.length l0) (hc0 : l0.length ≤ c0) (hr2 : Kd.C (Kd.int .u8) w A2 l2.length l2) (hc2 : l2.length ≤ c2) (h : batonref39_Find.f k l0 a1 l2 = some r) :
    Calls Try.prog 34 #[.slice A0 l0.length c0, .int .i64 a1, .slice A2 l2.length c2] w fun e w' => e = .returned (.int .i64 r) ∧ Drawn0 w w' := by
  have HR0 := Aside0.mk hr0
  have HC0 := Aside0.mk hc0
  clear hr0 hc0
  have HR2 := Aside0.mk hr2
  have HC2 := Aside0.mk hc2
  clear hr2 hc2
  have H : (batonref39_Find.l0 k l0 a1 l2 0) = some r := h
  clear h
  have H' := Aside0.mk H
  clear H
  go_enter Try.func34, Try.ntmps34
  go_wp2
  repeat (go_quiet (fail); try go_wp2)
  go_loopg [7] k (fun kq v7 w' => ∃ (x7_1 : Int), v7 = .int .i64 x7_1 ∧ Aside0 (batonref39_Find.l0 kq l0 a1 l2 x7_1 = some r) ∧ Aside0 (kq ≤ k) ∧ Drawn0 w w')
  case atStart => exact ⟨(0), (by first | rfl | (simp; done) | (simp [*]; done)), H', ⟨Nat.le_refl _⟩, by repeat (first | exact Drawn0.refl _ | apply Drawn0.step)⟩
  case round =>
    clear H'
    try clear c2
    try clear p2
    try clear c3
    obtain ⟨x7_1, rfl, HA, HK1, ⟨m1, rfl⟩⟩ := hrel
    cases gk with
    | zero => exact absurd HA.out (by simp [batonref39_Find.l0])
    | succ k1 =>
      have H := HA.out
      clear HA
      simp only [batonref39_Find.l0] at H
      by_cases c4 : x7_1 < (l0.length : Int)
      · rw [if_pos c4] at H
        have c4b0 : decide (x7_1 < (l0.length : Int)) = true := decide_eq_true c4
        clear c4
        by_cases c5 : 0 ≤ x7_1
        · rw [if_pos c5] at H
          have c5b0 : decide (0 ≤ x7_1) = true := decide_eq_true c5
          clear c5
          by_cases c6 : ((rd_T108 l0 x7_1).f1) = a1
          · rw [if_pos c6] at H
            have c6b0 : (((rd_T108 l0 x7_1).f1) == a1) = true := beq_iff_eq.mpr c6
            have c6b1 : (((rd_T108 l0 x7_1).f1) != a1) = false := bne_eq_false_iff_eq.mpr c6
            clear c6
            by_cases c7 : (strOfNums ((rd_T108 l0 x7_1).f3)).toList = (strOfNums l2).toList
            · rw [if_pos c7] at H
              have c7b0 : ((strOfNums ((rd_T108 l0 x7_1).f3)).toList == (strOfNums l2).toList) = true := beq_iff_eq.mpr c7
              have c7b1 : ((strOfNums ((rd_T108 l0 x7_1).f3)).toList != (strOfNums l2).toList) = false := bne_eq_false_iff_eq.mpr c7
              clear c7
              obtain rfl := Option.some.inj H
              have p136 : 0 ≤ (x7_1 : Int) := of_decide_eq_true (by first | (with_reducible assumption) | assumption)
              have q136 : x7_1 < (l0.length : Int) := of_decide_eq_true (by first | (with_reducible assumption) | assumption)
              obtain ⟨ad136, A136_3, c136_3, e136, hx136_0, hx136_1, hx136_2, hx136_3, hl136_3, hi136_3⟩ := at_T108 HR0.out x7_1 p136 q136
              cases e136
              have HR136_3 := Aside0.mk hi136_3
              have HC136_3 := Aside0.mk hl136_3
              clear hi136_3 hl136_3
              replace p136 := eq_true p136
              replace q136 := eq_true q136
              have p137 : 0 ≤ (x7_1 : Int) := of_decide_eq_true (by first | (with_reducible assumption) | assumption)
              have q137 : x7_1 < (l0.length : Int) := of_decide_eq_true (by first | (with_reducible assumption) | assumption)
              obtain ⟨ad137, A137_3, c137_3, e137, hx137_0, hx137_1, hx137_2, hx137_3, hl137_3, hi137_3⟩ := at_T108 HR0.out x7_1 p137 q137
              obtain rfl : ad136 = ad137 := (by injection e137)
              have HR137_3 := Aside0.mk hi137_3
              have HC137_3 := Aside0.mk hl137_3
              clear hi137_3 hl137_3
              replace p137 := eq_true p137
              replace q137 := eq_true q137
              have ea_ := Option.some.inj (hx136_3.symm.trans hx137_3)
              injection ea_ with ea_ en_ ec_
              subst ea_
              subst ec_
              clear en_
              have hcv8 := Kd.C_string (P := Try.prog) (A := A136_3) (c := c136_3) Try.underlying28 Try.underlying5 Try.underlying9 HR137_3.out
              have hcw8 := fun n_ : Nat => Kd.C_string (P := Try.prog) (A := A136_3) (c := c136_3) Try.underlying28 Try.underlying5 Try.underlying9 (Kd.C_drewN HR137_3.out n_)
              have hcx8 := fun m_ n_ : Nat => Kd.C_string (P := Try.prog) (A := A136_3) (c := c136_3) Try.underlying28 Try.underlying5 Try.underlying9 (Kd.C_drewN (Kd.C_drewN HR137_3.out m_) n_)
              have hcv9 := Kd.C_string (P := Try.prog) (A := A2) (c := c2) Try.underlying28 Try.underlying5 Try.underlying9 HR2.out
              have hcw9 := fun n_ : Nat => Kd.C_string (P := Try.prog) (A := A2) (c := c2) Try.underlying28 Try.underlying5 Try.underlying9 (Kd.C_drewN HR2.out n_)
              have hcx9 := fun m_ n_ : Nat => Kd.C_string (P := Try.prog) (A := A2) (c := c2) Try.underlying28 Try.underlying5 Try.underlying9 (Kd.C_drewN (Kd.C_drewN HR2.out m_) n_)
              go_wp2
              repeat (go_quiet (fail); try go_wp2)
              go_ret
              exact ⟨by first | rfl | (simp; done) | (simp [*]; done), by repeat (first | exact Drawn0.refl _ | apply Drawn0.step)⟩
            · rw [if_neg c7] at H
              have c7b0 : ((strOfNums ((rd_T108 l0 x7_1).f3)).toList == (strOfNums l2).toList) = false := beq_eq_false_iff_ne.mpr c7
              have c7b1 : ((strOfNums ((rd_T108 l0 x7_1).f3)).toList != (strOfNums l2).toList) = true := bne_iff_ne.mpr c7
              have H' := Aside0.mk H
              clear H
              have p136 : 0 ≤ (x7_1 : Int) := of_decide_eq_true (by first | (with_reducible assumption) | assumption)
              have q136 : x7_1 < (l0.length : Int) := of_decide_eq_true (by first | (with_reducible assumption) | assumption)
              obtain ⟨ad136, A136_3, c136_3, e136, hx136_0, hx136_1, hx136_2, hx136_3, hl136_3, hi136_3⟩ := at_T108 HR0.out x7_1 p136 q136
              cases e136
              have HR136_3 := Aside0.mk hi136_3
              have HC136_3 := Aside0.mk hl136_3
              clear hi136_3 hl136_3
              replace p136 := eq_true p136
              replace q136 := eq_true q136
              have p137 : 0 ≤ (x7_1 : Int) := of_decide_eq_true (by first | (with_reducible assumption) | assumption)
              have q137 : x7_1 < (l0.length : Int) := of_decide_eq_true (by first | (with_reducible assumption) | assumption)
              obtain ⟨ad137, A137_3, c137_3, e137, hx137_0, hx137_1, hx137_2, hx137_3, hl137_3, hi137_3⟩ := at_T108 HR0.out x7_1 p137 q137
              obtain rfl : ad136 = ad137 := (by injection e137)
              have HR137_3 := Aside0.mk hi137_3
              have HC137_3 := Aside0.mk hl137_3
              clear hi137_3 hl137_3
              replace p137 := eq_true p137
              replace q137 := eq_true q137
              have ea_ := Option.some.inj (hx136_3.symm.trans hx137_3)
              injection ea_ with ea_ en_ ec_
              subst ea_
              subst ec_
              clear en_
              have hcv10 := Kd.C_string (P := Try.prog) (A := A136_3) (c := c136_3) Try.underlying28 Try.underlying5 Try.underlying9 HR137_3.out
              have hcw10 := fun n_ : Nat => Kd.C_string (P := Try.prog) (A := A136_3) (c := c136_3) Try.underlying28 Try.underlying5 Try.underlying9 (Kd.C_drewN HR137_3.out n_)
              have hcx10 := fun m_ n_ : Nat => Kd.C_string (P := Try.prog) (A := A136_3) (c := c136_3) Try.underlying28 Try.underlying5 Try.underlying9 (Kd.C_drewN (Kd.C_drewN HR137_3.out m_) n_)
              have hcv11 := Kd.C_string (P := Try.prog) (A := A2) (c := c2) Try.underlying28 Try.underlying5 Try.underlying9 HR2.out
              have hcw11 := fun n_ : Nat => Kd.C_string (P := Try.prog) (A := A2) (c := c2) Try.underlying28 Try.underlying5 Try.underlying9 (Kd.C_drewN HR2.out n_)
              have hcx11 := fun m_ n_ : Nat => Kd.C_string (P := Try.prog) (A := A2) (c := c2) Try.underlying28 Try.underlying5 Try.underlying9 (Kd.C_drewN (Kd.C_drewN HR2.out m_) n_)
              go_wp2
              repeat (go_quiet (fail); try go_wp2)
              go_roundg k1
              case measure => have := HK1.out; omega
              case rel => exact ⟨(wrap64 (x7_1 + 1)), (by first | rfl | (simp; done) | (simp [*]; done)), H', ⟨by have := HK1.out; omega⟩, by repeat (first | exact Drawn0.refl _ | apply Drawn0.step)⟩
          · rw [if_neg c6] at H
            have c6b0 : (((rd_T108 l0 x7_1).f1) == a1) = false := beq_eq_false_iff_ne.mpr c6
            have c6b1 : (((rd_T108 l0 x7_1).f1) != a1) = true := bne_iff_ne.mpr c6
            have H' := Aside0.mk H
            clear H
            have p136 : 0 ≤ (x7_1 : Int) := of_decide_eq_true (by first | (with_reducible assumption) | assumption)
            have q136 : x7_1 < (l0.length : Int) := of_decide_eq_true (by first | (with_reducible assumption) | assumption)
            obtain ⟨ad136, A136_3, c136_3, e136, hx136_0, hx136_1, hx136_2, hx136_3, hl136_3, hi136_3⟩ := at_T108 HR0.out x7_1 p136 q136
            cases e136
            have HR136_3 := Aside0.mk hi136_3
            have HC136_3 := Aside0.mk hl136_3
            clear hi136_3 hl136_3
            replace p136 := eq_true p136
            replace q136 := eq_true q136
            go_wp2
            repeat (go_quiet (fail); try go_wp2)
            go_roundg k1
            case measure => have := HK1.out; omega
            case rel => exact ⟨(wrap64 (x7_1 + 1)), (by first | rfl | (simp; done) | (simp [*]; done)), H', ⟨by have := HK1.out; omega⟩, by repeat (first | exact Drawn0.refl _ | apply Drawn0.step)⟩
        · rw [if_neg c5] at H
          exact absurd H (by simp)
      · rw [if_neg c4] at H
        have c4b0 : decide (x7_1 < (l0.length : Int)) = false := decide_eq_false c4
        clear c4
        obtain rfl := Option.some.inj H
        go_wp2
        repeat (go_quiet (fail); try go_wp2)
        go_ret
        exact ⟨by first | rfl | (simp; done) | (simp [*]; done), by repeat (first | exact Drawn0.refl _ | apply Drawn0.step)⟩

end Go.Proofs.Ythcpfkkddfgamaa.PF39F
