/- By a program of this session (wip/tool/pp.py): plain Lean functions of the Go functions that this family of laws uses, the walks that the Go code comes to their answers, and the row of the law. No condition beside those that the row itself gives. -/
import Derived.Test.YtdbfclfglpbpmaaPF25Fx0
namespace Go.Proofs.Ytdbfclfglpbpmaa.PF25F
open Go.RowKit Go.Proofs.YtdbfclfglpbpmaaW.Hand Go.Proofs.YtdbfclfglpbpmaaW.PrintWords Go.Proofs.YtdbfclfglpbpmaaW.PrintLast Go.Proofs.YtdbfclfglpbpmaaW.PrintMore
attribute [local go_sem] max2_int min2_int max_two min_two max_three min_three max_four min_four   -- for this text's walks alone
set_option linter.unusedVariables false
set_option linter.unusedSimpArgs false

/-! ### roster_Device_88: function 88 (by hand) -/
def roster_Device_88.f (l0 : List (S115)) : Option (List (S115)) := if l0.length < 4398046511104 then some l0 else none
theorem q2_1 {p : Prop} (h : p := by first | (with_reducible assumption) | assumption) : p := h
theorem q2_2 {p : Prop} (h : p := by repeat (first | (with_reducible first | exact HB.out | apply below_alloc | apply pw_below_drewN | apply below_drew1) | exact HB.out)) : p := h
theorem q2_3 {p : Prop} (h : p := by (try simp only [List.map_toArray, List.map_cons, List.map_nil]); first | done | rfl | (simp only [List.length_drop, List.length_take]; rfl)) : p := h
theorem q2_4 {p : Prop} (h : p := by omega) : p := h
theorem q2_5 {p : Prop} (h : p := by (with_reducible repeat (first | apply Kd.R_alloc | apply Kd.R_drewN | apply Kd.R_drew)); exact HO_6.out) : p := h
set_option maxHeartbeats 8000000 in
set_option maxRecDepth 100000 in
theorem roster_Device_88.calls (A0 : Option Addr) (c0 : Nat) (l0 : List (S115)) (r : List (S115)) (w : World) (hr0 : Kd.C k115 w A0 l0.length l0) (hc0 : l0.length ≤ c0) (h : roster_Device_88.f l0 = some r) :
  Calls Try.prog 88 #[.slice A0 l0.length c0] w fun e w' => ∃ v0_ : Value, e = .returned (v0_) ∧ Kd.R k115 115 w' w.heap.size (fun _ => True) v0_ r ∧ Below w.heap.size w w' := by
 unfold roster_Device_88.f at h
 split at h
 ·rename_i hlim
  obtain rfl := Option.some.inj h
  clear h
  have HL := Aside0.mk hlim
  clear hlim
  have HB := Aside0.mk (Below.refl w.heap.size w)
  have HR := Aside0.mk hr0
  clear hr0 hc0
  rcases A0 with _ | ad
  ·obtain rfl := C_none HR.out
   have hq := fun (W : World) => Lib.run_eql_slice_nil (P := Try.prog) W 110 115 none 0 c0 0 0 Try.underlying110
   go_enter Try.func88, Try.ntmps88
   go_wp2
   go_ret
   exact ⟨_, rfl, Kd.R_nil _ _ _ _ _, HB.out⟩
  ·have hq := fun (W : World) => Lib.run_eql_slice_nil (P := Try.prog) W 110 115 (some ad) l0.length c0 0 0 Try.underlying110
   go_enter Try.func88, Try.ntmps88
   go_wp2_with (first | ((with_reducible refine gate_dst (N := 5) rfl ?_); refine Kd.R_lit k115 (w0 := w) w.heap.size 115 ?hg (N := 5) ?hd (xs := []) (inner := []) (ok := fun _ => True) (okp := fun _ => True) ?hr ?hp (fun _ hk => hk) trivial HB.out (Nat.le_refl _) (by simp) ?_; (case hd => rfl); (case hg => rfl); (case hr => first | (go_simp; done) | (go_simp; rfl)); (case hp => exact Reps.none _ _); intro v1 w1 ho hb hg hat; have HO := Aside0.mk ho; have HB1 := Aside0.mk hb; clear ho hb hg hat) | ((with_reducible refine gate_dst (N := 7) rfl ?_); refine Kd.R_append_rows k115 (w0 := w) w.heap.size rfl (.tmp 5) (.tmp 6) 110 115 (.agg #[(.int .i64 0), (.int .i64 0), (.bool false), (.int .i64 0)]) 32 rfl Try.underlying110 info115 rfl (by decide) q2_4 v1 [] l0 _ _ _ (fun _ => True) (fun _ => False) rfl rfl HO.out (Kd.C_below HR.out HB1.out) (fun _ _ h => h) (fun _ h => h.elim) (fun _ _ => trivial) HB1.out HB1.out.size (by have := HL.out; simp only [List.length_nil]; omega) ?_; intro v2 w2 ho hb hg hat; have HO2 := Aside0.mk ho; have HB2 := Aside0.mk hb; clear ho hb hg hat))
   go_ret
   exact ⟨_, rfl, HO2.out, HB2.out⟩
 ·cases h

/-! ### roster_Device_int: function 106, with the order of the first field (by hand) -/
def cmp3 (x y : Int) : Int := if x < y then -1 else if y < x then 1 else 0
set_option maxHeartbeats 8000000 in
set_option maxRecDepth 100000 in
theorem roster_Device_int_nan.calls (x : Int) (w : World) : Calls Try.prog 112 #[.int .i64 x] w fun e w' => e = .returned (.bool false) ∧ Below w.heap.size w w' := by
 go_enter Try.func112, Try.ntmps112
 go_wp2
 go_ret
 exact ⟨by first | rfl | simp, by repeat (first | exact Below.refl _ _ | apply Below.drew | refine Below.alloc ?_ (Nat.le_refl _) _)⟩
set_option maxHeartbeats 8000000 in
set_option maxRecDepth 100000 in
theorem roster_Device_int_cmp.calls (x y : Int) (w : World) : Calls Try.prog 100 #[.int .i64 x, .int .i64 y] w fun e w' => e = .returned (.int .i64 (cmp3 x y)) ∧ Below w.heap.size w w' := by
 have key : ∀ (b1 b2 : Bool), decide (x < y) = b1 → decide (y < x) = b2 → cmp3 x y = if b1 = true then -1 else if b2 = true then 1 else 0 := by
  rintro b1 b2 rfl rfl
  unfold cmp3
  simp
 obtain ⟨b1, h1⟩ : ∃ b, decide (x < y) = b := ⟨_, rfl⟩
 obtain ⟨b2, h2⟩ : ∃ b, decide (y < x) = b := ⟨_, rfl⟩
 rw [key b1 b2 h1 h2]
 clear key
 have HB0 := Aside0.mk (Below.refl w.heap.size w)
 cases b1 <;> cases b2 <;> (
  go_enter Try.func100, Try.ntmps100
  go_wp2_with (first | (go_at_call 112; refine (roster_Device_int_nan.calls x _).mono ?_; rintro e w1 ⟨rfl, hb1⟩; have HB1 := Aside0.mk (HB0.out.trans hb1); clear hb1) | (go_at_call 112; refine (roster_Device_int_nan.calls y _).mono ?_; rintro e w2 ⟨rfl, hb2⟩; have HB2 := Aside0.mk (HB1.out.trans (hb2.mono HB1.out.size)); clear hb2))
  go_ret
  exact ⟨rfl, HB2.out⟩)
set_option maxHeartbeats 8000000 in
set_option maxRecDepth 100000 in
theorem roster_Device_int_1.calls (x : S115) (id : Int) (w : World) : Calls Try.prog 107 #[.agg #[.int .i64 x.f0, .int .i64 x.f1, .bool x.f2, .int .i64 x.f3], .int .i64 id] w fun e w' => e = .returned (.int .i64 (cmp3 x.f0 id)) ∧ Below w.heap.size w w' := by
 have HB0 := Aside0.mk (Below.refl w.heap.size w)
 go_enter Try.func107, Try.ntmps107
 go_wp2_with (go_at_call 100; refine (roster_Device_int_cmp.calls x.f0 id _).mono ?_; rintro e w1 ⟨rfl, hb1⟩)
 go_ret
 exact ⟨rfl, by first | exact hb1 | exact (Below.alloc HB0.out (Nat.le_refl _) _).trans (hb1.mono (by simp))⟩
def bsI (id : Int) (l : List S115) : Nat → Int → Int → Int
 | 0, i, _ => i
 | d + 1, i, j => if i < j then (if (rd_T115 l ((i + j) / 2)).f0 < id then bsI id l d ((i + j) / 2 + 1) j else bsI id l d i ((i + j) / 2)) else i
theorem cmp3_neg (x y : Int) : decide (cmp3 x y < 0) = decide (x < y) := by
 unfold cmp3
 split
 ·rename_i h; simp [h]
 ·rename_i h
  split <;> simp [h]
theorem cmp3_zero (x y : Int) : (cmp3 x y == 0) = (x == y) := by
 unfold cmp3
 split
 ·rename_i h
  rw [beq_eq_false_iff_ne.2 (show (-1 : Int) ≠ 0 by decide), eq_comm]
  exact beq_eq_false_iff_ne.2 q2_4
 ·rename_i h
  split
  ·rename_i h2
   rw [beq_eq_false_iff_ne.2 (show (1 : Int) ≠ 0 by decide), eq_comm]
   exact beq_eq_false_iff_ne.2 q2_4
  ·rename_i h2
   rw [beq_iff_eq.2 (show (0 : Int) = 0 from rfl), eq_comm]
   exact beq_iff_eq.2 q2_4
def roster_Device_int.f (l0 : List S115) (a1 : Int) : Option (Int × Bool) := if l0.length < 1000000000 then some (bsI a1 l0 l0.length 0 (l0.length : Int), decide (bsI a1 l0 l0.length 0 (l0.length : Int) < (l0.length : Int)) && (rd_T115 l0 (bsI a1 l0 l0.length 0 (l0.length : Int))).f0 == a1) else none
theorem mid_u64 (i j : Int) (h0 : 0 ≤ i) (h1 : i ≤ j) (h2 : j < 1000000000) : wrap64 (i + j) = i + j ∧ IntKind.u64.wrap (i + j) = i + j ∧ wrap64 ((i + j) / 2) = (i + j) / 2 := by
 refine ⟨by unfold wrap64; omega, by rw [IntKind.wrap_u64]; omega, by unfold wrap64; omega⟩
set_option maxHeartbeats 8000000 in
set_option maxRecDepth 100000 in
theorem roster_Device_int.calls (A0 : Option Addr) (c0 : Nat) (l0 : List S115) (a1 : Int) (r1 : Int) (r2 : Bool) (w : World) (hr0 : Kd.C k115 w A0 l0.length l0) (hc0 : l0.length ≤ c0) (h : roster_Device_int.f l0 a1 = some (r1, r2)) :
  Calls Try.prog 106 #[.slice A0 l0.length c0, .int .i64 a1, .func (.func 107) #[] #[]] w fun e w' => e = .returned (.tuple #[.int .i64 r1, .bool r2]) ∧ Below w.heap.size w w' := by
 unfold roster_Device_int.f at h
 split at h
 ·rename_i hlim
  simp only [Option.some.injEq, Prod.mk.injEq] at h
  obtain ⟨rfl, rfl⟩ := h
  have hu115 := Try.underlying115
  have eg : ∀ args w, (callFunc 107 args).run Try.prog w = .ok (.enter 107 args) w := enters_of Try.func107 (by kernel_rfl) rfl
  have HR0 := Aside0.mk hr0
  have HM := Aside0.mk hlim
  clear hr0 hlim hc0
  have HB := Aside0.mk (Below.refl w.heap.size w)
  go_enter Try.func106, Try.ntmps106
  go_wp2
  go_loopg [9, 10, 11] l0.length (fun gg v9 v10 _ w' => ∃ (i j : Int) (d : Nat), v9 = .int .i64 i ∧ v10 = .int .i64 j ∧ Aside0 (0 ≤ i ∧ i ≤ j ∧ j ≤ (l0.length : Int)) ∧ Aside0 ((j - i).toNat ≤ gg ∧ (j - i).toNat ≤ d) ∧ Aside0 (bsI a1 l0 l0.length 0 (l0.length : Int) = bsI a1 l0 d i j) ∧ Aside0 (Below w.heap.size w w'))
  case atStart => exact ⟨0, (l0.length : Int), l0.length, rfl, rfl, ⟨by omega⟩, ⟨by omega⟩, ⟨rfl⟩, HB⟩
  case round =>
   obtain ⟨i, j, d, rfl, rfl, HX, HG, HI, HB⟩ := hrel
   by_cases hlt : i < j
   ·have b0 : decide (i < j) = true := decide_eq_true hlt
    have hx := HX.out
    have hm := HM.out
    obtain ⟨d', rfl⟩ : ∃ d', d = d' + 1 := ⟨d - 1, by have := HG.out.2; omega⟩
    have HW := Aside0.mk (mid_u64 i j hx.1 hx.2.1 q2_4)
    obtain ⟨ad, e1, hx0, hx1, hx2, hx3⟩ := at_T115 HR0.out ((i + j) / 2) q2_4 q2_4
    cases e1
    replace hx0 := (HB.out.cell (World.block_lt_of_cell? w _ hx0)).trans hx0
    replace hx1 := (HB.out.cell (World.block_lt_of_cell? w _ hx1)).trans hx1
    replace hx2 := (HB.out.cell (World.block_lt_of_cell? w _ hx2)).trans hx2
    replace hx3 := (HB.out.cell (World.block_lt_of_cell? w _ hx3)).trans hx3
    have px : (0 ≤ (i + j) / 2) = True := eq_true q2_4
    have qx : ((i + j) / 2 < (l0.length : Int)) = True := eq_true q2_4
    have HQ := Aside0.mk (show i ≤ (i + j) / 2 ∧ (i + j) / 2 < j from by omega)
    have HD := Aside0.mk (show bsI a1 l0 l0.length 0 (l0.length : Int) = if (rd_T115 l0 ((i + j) / 2)).f0 < a1 then bsI a1 l0 d' ((i + j) / 2 + 1) j else bsI a1 l0 d' i ((i + j) / 2) from HI.out.trans (if_pos hlt))
    have hcall := fun W => roster_Device_int_1.calls (rd_T115 l0 ((i + j) / 2)) a1 W
    have HL := Aside0.mk hlt
    clear hlt hx hm
    generalize rd_T115 l0 ((i + j) / 2) = y at hx0 hx1 hx2 hx3 HD hcall
    have hc3 := cmp3_neg y.f0 a1
    cases hq : decide (y.f0 < a1) with
    | true =>
     rw [hq] at hc3
     obtain ⟨m1, m2, m3⟩ := HW.out
     have m1' := (i64_w _).trans m1
     have m3' := (i64_w _).trans m3
     go_wp2_with (go_at_call 107; refine (hcall _).mono ?_; rintro e w' ⟨rfl, hb'⟩; have HB2 := Aside0.mk (HB.out.trans (hb'.mono HB.out.size)); clear hb')
     go_roundg ((j - ((i + j) / 2 + 1)).toNat)
     case measure => have := HG.out; have := HQ.out; omega
     case rel =>
      have hx := HX.out
      have hQ := HQ.out
      have hm := HM.out
      have hg := HG.out
      have hw : wrap64 ((i + j) / 2 + 1) = (i + j) / 2 + 1 := by unfold wrap64; omega
      refine ⟨wrap64 ((i + j) / 2 + 1), j, d', (by first | rfl | (simp; done) | (simp [*]; done)), rfl, ⟨by rw [hw]; omega⟩, ⟨by rw [hw]; omega⟩, ⟨?_⟩, HB2⟩
      rw [hw, HD.out, if_pos (of_decide_eq_true hq)]
    | false =>
     rw [hq] at hc3
     obtain ⟨m1, m2, m3⟩ := HW.out
     have m1' := (i64_w _).trans m1
     have m3' := (i64_w _).trans m3
     go_wp2_with (go_at_call 107; refine (hcall _).mono ?_; rintro e w' ⟨rfl, hb'⟩; have HB2 := Aside0.mk (HB.out.trans (hb'.mono HB.out.size)); clear hb')
     go_roundg ((((i + j) / 2) - i).toNat)
     case measure => have := HG.out; have := HQ.out; omega
     case rel =>
      have hx := HX.out
      have hQ := HQ.out
      have hg := HG.out
      refine ⟨i, (i + j) / 2, d', rfl, (by first | rfl | (simp; done) | (simp [*]; done)), ⟨by omega⟩, ⟨by omega⟩, ⟨?_⟩, HB2⟩
      rw [HD.out, if_neg (of_decide_eq_false hq)]
   ·have b0 : decide (i < j) = false := decide_eq_false hlt
    have hI : bsI a1 l0 l0.length 0 (l0.length : Int) = i := by
     rw [HI.out]
     cases d with
     | zero => rfl
     | succ d => exact if_neg hlt
    have HI2 := Aside0.mk hI
    have HX2 := Aside0.mk HX.out
    clear hlt HI HX HG hI
    by_cases hn : i < (l0.length : Int)
    ·have b1 : decide (i < (l0.length : Int)) = true := decide_eq_true hn
     obtain ⟨ad, e1, hx0, hx1, hx2, hx3⟩ := at_T115 HR0.out i HX2.out.1 hn
     cases e1
     replace hx0 := (HB.out.cell (World.block_lt_of_cell? w _ hx0)).trans hx0
     replace hx1 := (HB.out.cell (World.block_lt_of_cell? w _ hx1)).trans hx1
     replace hx2 := (HB.out.cell (World.block_lt_of_cell? w _ hx2)).trans hx2
     replace hx3 := (HB.out.cell (World.block_lt_of_cell? w _ hx3)).trans hx3
     have px : (0 ≤ i) = True := eq_true HX2.out.1
     have qx : (i < (l0.length : Int)) = True := eq_true hn
     have hcall := fun W => roster_Device_int_1.calls (rd_T115 l0 i) a1 W
     clear hn
     obtain ⟨y, hy⟩ : ∃ y, rd_T115 l0 i = y := ⟨_, rfl⟩
     have HY := Aside0.mk hy
     rw [hy] at hx0 hx1 hx2 hx3 hcall
     clear hy
     have hc3 := cmp3_zero y.f0 a1
     go_wp2_with (go_at_call 107; refine (hcall _).mono ?_; rintro e w' ⟨rfl, hb'⟩; have HB2 := Aside0.mk (HB.out.trans (hb'.mono HB.out.size)); clear hb')
     go_ret2
     refine ⟨?_, HB2.out⟩
     rw [HI2.out, HY.out]
     first | rfl | (simp [b1, hc3]; done)
    ·have b1 : decide (i < (l0.length : Int)) = false := decide_eq_false hn
     clear hn
     go_wp2
     go_ret2
     refine ⟨?_, HB.out⟩
     rw [HI2.out]
     first | rfl | (simp [b1]; done)
 ·cases h

/-! ### roster_place: function 89 -/
def roster_place.f (l0 : List (S115)) (a1 : Int) : Option (Int × Bool) := (roster_Device_int.f l0 a1).bind fun bt101 => (some (bt101.1, bt101.2))
set_option maxHeartbeats 8000000 in
set_option maxRecDepth 100000 in
theorem roster_place.calls (A0 : Option Addr) (c0 : Nat) (l0 : List (S115)) (a1 : Int) (r1 : Int) (r2 : Bool) (w : World) (hr0 : Kd.C k115 w A0 l0.length l0) (hc0 : l0.length ≤ c0) (h : roster_place.f l0 a1 = some (r1, r2)) :
  Calls Try.prog 89 #[.slice A0 l0.length c0, .int .i64 a1] w fun e w' => e = .returned (.tuple #[.int .i64 r1, .bool r2]) ∧ Below w.heap.size w w' := by
 have HR0 := Aside0.mk hr0
 have HC0 := Aside0.mk hc0
 clear hr0 hc0
 have HB := Aside0.mk (Below.refl w.heap.size w)
 have H : ((roster_Device_int.f l0 a1).bind fun bt101 => (some (bt101.1, bt101.2))) = some (r1, r2) := h
 clear h
 replace H := Option.bind_eq_some_iff.mp H
 obtain ⟨⟨t101, t102⟩, A30, H⟩ := H
 replace H : (some (t101, t102)) = some (r1, r2) := H
 have A3 := Aside0.mk A30
 clear A30
 simp only [Option.some.injEq, Prod.mk.injEq] at H
 obtain ⟨rfl, rfl⟩ := H
 go_enter Try.func89, Try.ntmps89
 go_wp2_with (first | ((with_reducible refine gate_callee (f := 106) rfl ?_); refine goesL_ (some 8) rfl rfl Try.func106 (by kernel_rfl) rfl #[.slice A0 l0.length c0, .int .i64 a1, .func (.func 107) #[] #[]] rfl q2_3 ?_; (with_reducible refine (roster_Device_int.calls _ _ l0 a1 t101 t102 _ ?side1 ?side2 A3.out).mono ?_); (case side1 => repeat (first | exact HR0.out | (with_reducible refine Kd.C_alloc ?_ _) | (with_reducible refine Kd.C_drewN ?_ _) | (with_reducible refine Kd.C_drew ?_))); (case side2 => exact HC0.out); rintro e w4 ⟨rfl, hb⟩; refine ⟨_, rfl, ?_⟩; have n0_ := Aside0.mk (below_step q2_2 hb); clear HB; have HB := n0_; clear n0_; (try clear hb); (try clear hb2); (try clear hk); (try clear hi)))
 go_ret2
 exact ⟨by first | rfl | (simp [errW_none, errW_some] <;> rfl) | (simp [*, errW_none, errW_some] <;> rfl), by repeat (first | (with_reducible first | exact HB.out | apply below_alloc | apply pw_below_drewN | apply below_drew1) | exact HB.out)⟩

-- NOT PRINTED: function 108 (roster_Device_108)

-- NOT PRINTED: function 122 (roster_Device_122)

-- NOT PRINTED: function 115 (roster_Device_115)

-- NOT PRINTED: function 109 (roster_Device_109)

/-! ### roster_Device_90: function 90, of one element (by hand) -/
/-- copy of whole elements, into a row that has room for them. -/
theorem run_copy_sz {P : Program} (w : World) (dT sT ty elem : TypeId) (b o dLen dCap : Nat) (a : Addr) (sLen sCap size m : Nat) (cs : List Value) (hu : P.underlying dT = some (.slice elem)) (hs : (P.info? elem).map (·.size) = some size) (hm : Nat.min sLen dLen = m) (hn : cs.length = m * size)
  (hsrc : ∀ j v, cs[j]? = some v → w.cell? (a.add j) = some v) (hsp : ∀ j, j < cs.length → (w.cell? ⟨b, o + j, none⟩).isSome = true) (hfz : ∀ j, j < cs.length → w.frozen? ⟨b, o + j, none⟩ = false) (h1 : ∀ v ∈ cs, v.oneCell' = true) :
  (Builtin.copy_ #[dT, sT] ty #[.slice (some ⟨b, o, none⟩) dLen dCap, .slice (some a) sLen sCap]).run P w = .ok (goInt m) (w.setCells b o cs) := by
 have hl := run_loadCells_list (P := P) w a cs hsrc
 have hst := run_storeCells_cells (P := P) b o cs 0 w (by simpa using hsp) (by simpa using hfz) h1
 simp only [Nat.add_zero] at hst
 cases hq : P.info? elem with
 | none => simp [hq] at hs
 | some i =>
  have hi : i.size = size := by simpa [hq] using hs
  rw [hn] at hl
  simp [Builtin.copy_, run_underlying hu, Builtin.lenOf, Builtin.firstCells, sizeOf, typeInfo, hq, hi, hm, hl, hst]
/-- One operation 'copy' whose run is known, in a region that draws. -/
theorem step_copy_known {P : Program} {ops : Array Oper} {o : Oper} {a : Act} {w : World} {K : Act → World → Prop} {Q : Exit → Act → World → Prop} {E : Prop}
  (hg : o.guard = none) (d x : Operand) (dT sT : TypeId) (hop : o.op = Op.call { callee := Callee.builtin Builtin.copy, args := #[d, x], argTypes := #[dT, sT] })
  (v u : Value) (hd : a.eval d = v) (hx : a.eval x = u) {v' : Value} {w' : World} (hr : (Builtin.copy_ #[dT, sT] o.type #[v, u]).run P w = .ok v' w') (hK : K (a.put o.dst v') w') :
  if Region.wanted o (yielded ops a.tmps) = true then Oper.wp P o a w K Q else E := by
 rw [if_pos (by simp [Region.wanted, hg])]
 simp [Oper.wp, execOp, hop, resolve, invoke, builtin, hd, hx, hr, Result.andThen]
 exact hK
/-- Cells that say what a row's elements are, as a row of one's own. -/
theorem R_ofcells {α : Type} {d : Kd α} {e base g cap : Nat} {w W : World} {ok ok1 : Nat → Prop} {b1 : Nat} {xs : List α} {inner : List Value} (hM : ∀ (w w' : World) (b b' : Nat) (ok ok' : Nat → Prop) (x : α) (c : List Value), d.M w b ok x c → d.M w' b' ok' x c)
  (hr : Reps (d.M w b1 ok1) d.sz xs inner) {cur : Array Value} (hb : base ≤ g) (hh : W.heap[g]? = some (.cells cur e (0, 0))) (hnc : xs.length ≤ cap) (hcm : cap ≤ maxLen) (hcs : cur.size = cap * d.sz) (ht : cur.toList.take (xs.length * d.sz) = inner) (hok : ok g) :
  d.R e W base ok (.slice (some ⟨g, 0, none⟩) xs.length cap) xs := by
 refine ⟨fun k hk => ?_, inner, ⟨hr.1, .inr ⟨g, cap, cur, rfl, hb, hh, hnc, hcm, hcs, ht⟩⟩, hr.imp_ (fun x c h => hM _ _ _ _ _ _ x c h)⟩
 have : g = k := by simpa [Value.ownBlock] using hk
 subst this
 exact hok
/-- The cells of a row in which some have been moved up by one element and another one stands between. -/
theorem cells_ins {z n i : Nat} {cur cur1 cur2 ins v : List Value} (hi : i ≤ n) (hv : v.length = z) (hins : cur.take (n * z) = ins) (hl : n * z ≤ cur.length) (h1 : cur1 = cur.take ((i + 1) * z) ++ ins.drop (i * z) ++ cur.drop ((i + 1) * z + (ins.drop (i * z)).length)) (h2 : cur2 = cur1.take (i * z) ++ v ++ cur1.drop (i * z + v.length)) (hroom : (n + 1) * z ≤ cur.length) :
  cur2.take ((n + 1) * z) = ins.take (i * z) ++ v ++ ins.drop (i * z) := by
 have e1 : (i + 1) * z = i * z + z := by rw [Nat.add_mul, Nat.one_mul]
 have e2 : (n + 1) * z = n * z + z := by rw [Nat.add_mul, Nat.one_mul]
 have e3 : i * z ≤ n * z := Nat.mul_le_mul_right _ hi
 have hil : ins.length = n * z := by rw [← hins, List.length_take]; omega
 have hdl : (ins.drop (i * z)).length = n * z - i * z := by rw [List.length_drop, hil]
 have ht1 : cur1.take (i * z) = ins.take (i * z) := by
  rw [h1, List.append_assoc, List.take_append_of_le_length (by rw [List.length_take]; omega), List.take_take, ← hins, List.take_take]
  congr 1
  omega
 have hd1 : cur1.drop (i * z + v.length) = ins.drop (i * z) ++ cur.drop ((i + 1) * z + (ins.drop (i * z)).length) := by
  rw [h1, hv, ← e1, List.append_assoc, List.drop_append_of_le_length (by rw [List.length_take]; omega), List.drop_of_length_le (by rw [List.length_take]; omega), List.nil_append]
 rw [h2, ht1, hd1, ← List.append_assoc, List.take_append_of_le_length (by rw [List.length_append, List.length_append, List.length_take, hdl, hv, hil]; omega), List.take_of_length_le (by rw [List.length_append, List.length_append, List.length_take, hdl, hv, hil]; omega)]
theorem wrap_suc (n : Nat) (h : n < 1000000000) : wrap64 ((n : Int) + 1) = (n : Int) + 1 := by unfold wrap64; omega
theorem wrap_dif (n i : Nat) (h : n < 1000000000) (hi : i ≤ n) : wrap64 ((n : Int) + 1 - (i : Int)) = (n : Int) + 1 - (i : Int) := by unfold wrap64; omega
/-- The cells of a new row: what stood ahead, another one, and what stood behind. -/
theorem cells_grow {z n i : Nat} {row cur1 cur2 ins v : List Value} (hi : i ≤ n) (hv : v.length = z) (hins : ins.length = n * z) (hr : row.take (i * z) = ins.take (i * z)) (hl : (n + 1) * z ≤ row.length) (h1 : cur1 = row.take (i * z) ++ v ++ row.drop (i * z + v.length)) (h2 : cur2 = cur1.take ((i + 1) * z) ++ ins.drop (i * z) ++ cur1.drop ((i + 1) * z + (ins.drop (i * z)).length)) :
  cur2.take ((n + 1) * z) = ins.take (i * z) ++ v ++ ins.drop (i * z) := by
 have e1 : (i + 1) * z = i * z + z := by rw [Nat.add_mul, Nat.one_mul]
 have e2 : (n + 1) * z = n * z + z := by rw [Nat.add_mul, Nat.one_mul]
 have e3 : i * z ≤ n * z := Nat.mul_le_mul_right _ hi
 have hdl : (ins.drop (i * z)).length = n * z - i * z := by rw [List.length_drop, hins]
 have htl : (ins.take (i * z)).length = i * z := by rw [List.length_take, hins]; omega
 have hp : cur1.take ((i + 1) * z) = ins.take (i * z) ++ v := by
  rw [h1, hr, List.take_append_of_le_length (by rw [List.length_append, htl, hv]; omega), List.take_of_length_le (by rw [List.length_append, htl, hv]; omega)]
 rw [h2, hp, List.take_append_of_le_length (by rw [List.length_append, List.length_append, htl, hv, hdl]; omega), List.take_of_length_le (by rw [List.length_append, List.length_append, htl, hv, hdl]; omega)]
def roster_Device_90.f (l0 : List S115) (a1 : Int) (l2 : List S115) : Option (List S115) := if 0 ≤ a1 ∧ a1 ≤ (l0.length : Int) ∧ l2.length = 1 ∧ l0.length < 1000000000 then some (l0.take a1.toNat ++ l2 ++ l0.drop a1.toNat) else none
theorem k115_flat (w w' : World) (b b' : Nat) (ok ok' : Nat → Prop) (x : S115) (c : List Value) (h : k115.M w b ok x c) : k115.M w' b' ok' x c := h
set_option maxHeartbeats 8000000 in
set_option maxRecDepth 100000 in
theorem roster_Device_90.calls (P0_ : Nat → Prop) (u9000_ : Value) (l0 : List S115) (a1 : Int) (P2_ : Nat → Prop) (u9001_ : Value) (l2 : List S115) (r : List S115) (w0 w : World) (hB : Below w0.heap.size w0 w) (ho0 : Kd.R k115 115 w w0.heap.size P0_ u9000_ l0) (hp0_2 : ∀ k_, P0_ k_ → ¬ P2_ k_) (ho2 : Kd.R k115 115 w w0.heap.size P2_ u9001_ l2) (hp2_0 : ∀ k_, P2_ k_ → ¬ P0_ k_) (h : roster_Device_90.f l0 a1 l2 = some r) :
  Calls Try.prog 90 #[u9000_, .int .i64 a1, u9001_] w fun e w' => ∃ v0_ : Value, e = .returned (v0_) ∧ Kd.R k115 115 w' w0.heap.size (fun k_ => ((P0_ k_ ∨ P2_ k_) ∨ w.heap.size ≤ k_)) v0_ r ∧ Below w0.heap.size w0 w' ∧ Kept w w' (fun k_ => P0_ k_ ∨ P2_ k_) := by
 unfold roster_Device_90.f at h
 split at h
 ·rename_i hc
  obtain ⟨hc0, hc1, hc2, hc3⟩ := hc
  obtain rfl := Option.some.inj h
  clear h
  obtain ⟨i, rfl⟩ := Int.eq_ofNat_of_zero_le hc0
  obtain ⟨x, rfl⟩ := List.length_eq_one_iff.1 hc2
  simp only [Int.toNat_natCast]
  have hi : i ≤ l0.length := by omega
  obtain ⟨i0, hi0, hz0, hsz0, hby0⟩ := info_parts info115
  have HC2 := (Kd.R_reads ho2)
  obtain ⟨A2, c2, rfl, hnc2, hC2⟩ := HC2
  obtain ⟨A, c, rfl, hnc, hC0⟩ := Kd.R_reads ho0
  have hcf := cut_from (P := Try.prog) 110 115 .i64 Try.underlying110 hi0 4 hsz0 A l0.length c (i : Int) q2_4 q2_4
  simp only [List.length_singleton, Int.toNat_natCast] at hnc2 hC2 hcf ho2 ⊢
  by_cases hin : i = l0.length
  ·subst hin
   obtain ⟨vc, hcv⟩ : ∃ v, ∀ W : World, (Instr.slice 110 (.slice A l0.length c) (some (.int .i64 (l0.length : Int))) none none).run Try.prog W = .ok v W := ⟨_, hcf⟩
   clear hcf
   rw [List.take_length, List.drop_length, List.append_nil]
   have HO := Aside0.mk (show Kd.R k115 115 w w0.heap.size (fun k_ => ((P0_ k_ ∨ P2_ k_) ∨ w.heap.size ≤ k_)) (.slice A l0.length c) l0 from Kd.R_mono ho0 (fun _ hk => .inl (.inl hk)))
   have HOK := Aside0.mk ho0.1
   have HC := Aside0.mk hC2
   have HB := Aside0.mk hB
   have HL := Aside0.mk hc3
   clear ho0 ho2 hC0 hC2 hB hc0 hc1 hc2 hc3 hi hp0_2 hp2_0 hnc hnc2 hi0 hz0 hsz0 hby0
   go_enter Try.func90, Try.ntmps90
   go_wp2_with ((with_reducible refine gate_dst (N := 25) rfl ?_); refine Kd.R_append_rows k115 (w0 := w0) w0.heap.size rfl (.tmp 23) (.tmp 24) 110 115 (.agg #[(.int .i64 0), (.int .i64 0), (.bool false), (.int .i64 0)]) 32 rfl Try.underlying110 info115 rfl (by decide) q2_4 (.slice A l0.length c) l0 [x] A2 1 c2 (fun k_ => ((P0_ k_ ∨ P2_ k_) ∨ w.heap.size ≤ k_)) (fun _ => False) rfl rfl HO.out HC.out (fun _ _ h => h) (fun _ hk => hk.elim) (fun k hk => .inr hk) HB.out HB.out.size (by have := HL.out; omega) ?_; intro v1 w1 ho hb hg hat; have HO2 := Aside0.mk ho; have HB2 := Aside0.mk hb; have HG2 := Aside0.mk hg; clear ho hb hg hat)
   go_ret
   exact ⟨_, rfl, HO2.out, HB2.out, ⟨HG2.out.size, fun k hk hS => HG2.out.block k hk (fun e => hS (.inl (HOK.out k e.symm)))⟩⟩
  ·have hlt : i < l0.length := by omega
   obtain ⟨hok0, in0, hown0, hr0⟩ := ho0
   obtain ⟨hok2, in2, hown2, hr2⟩ := ho2
   rcases hown2.2 with ⟨_, hn2⟩ | ⟨g2, cap2, cur2, hv2, hb2, hh2, hnn2, hcm2, hcs2, ht2⟩
   ·cases hn2
   injection hv2 with ha2 hl_ hcc2
   clear hl_
   subst ha2; subst hcc2
   rcases hown0.2 with ⟨_, hn0⟩ | ⟨g, cap, cur, hv, hb, hh, hnn, hcm, hcs, ht⟩
   ·omega
   injection hv with ha hl_ hcc
   clear hl_
   subst ha; subst hcc
   have hcs4 : cur.size = c * 4 := hcs
   have hcs24 : cur2.size = c2 * 4 := hcs2
   have HCM := Aside0.mk hcm
   have HZ := Aside0.mk hz0
   have HBY := Aside0.mk hby0
   clear hcs hcs2 hcm hcm2 hby0 hz0 hnn hnn2
   have hin2 : in2 = [.int .i64 x.f0, .int .i64 x.f1, .bool x.f2, .int .i64 x.f3] := by
    have hl2 : in2.length = 4 := hr2.1
    have := k115_openM (hr2.2 0 x rfl)
    rw [Nat.zero_mul, List.drop_zero, List.take_of_length_le (by rw [hl2]; exact Nat.le_refl _)] at this
    exact this
   have hl0 : in0.length = l0.length * 4 := hr0.1
   have hl2 : in2.length = 4 := hr2.1
   have hg2 : g2 ≠ g := fun e => hp0_2 g (hok0 g rfl) (by rw [← e]; exact hok2 g2 rfl)
   have hc0' : ∀ j v, in0[j]? = some v → w.cell? ⟨g, j, none⟩ = some v := fun j v hj => by
    have := hown0.cells (g := g) rfl j v hj
    rwa [add_plain] at this
   have hc2' : ∀ j v, in2[j]? = some v → w.cell? ⟨g2, j, none⟩ = some v := fun j v hj => by
    have := hown2.cells (g := g2) rfl j v hj
    rwa [add_plain] at this
   have h1c : ∀ v ∈ in0, v.oneCell' = true := Kd.reps_one hr0 (by decide) (fun _ _ hp => k115.K_one (k115.K_of_M hp))
   have h1v : ∀ v ∈ in2, v.oneCell' = true := Kd.reps_one hr2 (by decide) (fun _ _ hp => k115.K_one (k115.K_of_M hp))
   have hgl : g < w.heap.size := blk_lt hh
   have hg2l : g2 < w.heap.size := blk_lt hh2
   have hsz : (Try.prog.info? 115).map (·.size) = some 4 := by rw [hi0]; simp [hsz0]
   have hsz' : ∀ W, (sizeOf 115).run Try.prog W = .ok 4 W := fun W => by simp [sizeOf, typeInfo, hi0, hsz0]
   have hb1 : ((1 : Int) == 0) = false := rfl
   have hb2' : ((i : Int) == (l0.length : Int)) = false := beq_eq_false_iff_ne.2 q2_4
   have hrall : Reps (k115.M w w0.heap.size (fun _ => True)) 4 (l0.take i ++ [x] ++ l0.drop i) (in0.take (i * 4) ++ in2 ++ in0.drop (i * 4)) := by
    refine Kd.reps_append (Kd.reps_append (Kd.reps_take (hr0.imp_ (fun x c h => k115_flat _ _ _ _ _ _ x c h)) q2_4) (hr2.imp_ (fun x c h => k115_flat _ _ _ _ _ _ x c h))) (Kd.reps_drop (hr0.imp_ (fun x c h => k115_flat _ _ _ _ _ _ x c h)))
   by_cases hroom : l0.length + 1 ≤ c
   ·have hov : ∀ lb cb, (callFunc 108 #[.slice (some ⟨g2, 0, none⟩) 1 c2, .slice (some ⟨g, (i + 1) * 4, none⟩) lb cb]).run Try.prog w = .ok (.value (.bool false)) w := fun lb cb => by
     rw [run_callFunc_extern Try.func108 (by kernel_rfl) (by kernel_rfl) (by kernel_rfl) (e := Extern.SlicesOverlaps.overlaps #[110, 110] #[4]) (by kernel_rfl),
      Lib.run_overlaps_apart w 110 4 115 Try.underlying110 4 hsz' ⟨g2, 0, none⟩ ⟨g, (i + 1) * 4, none⟩ 1 c2 lb cb hg2 115 115 cur2.size cur.size (by simp [World.shape?, hh2]) (by simp [World.shape?, hh]) q2_4 (blk_frozen hh2 _) (blk_frozen hh2 _)]
     rfl
    have hbr : decide ((c : Int) < (l0.length : Int) + 1) = false := decide_eq_false q2_4
    have hcf1 := hcf
    rw [if_neg (show ¬ c = i by omega), show (some (⟨g, 0, none⟩ : Addr)).map (·.add (i * 4)) = some ⟨g, i * 4, none⟩ from by rw [Option.map_some, add_plain]] at hcf1
    have hct : ∀ W : World, (Instr.slice 110 (.slice (some ⟨g, 0, none⟩) l0.length c) none (some (.int .i64 ((l0.length : Int) + 1))) none).run Try.prog W = .ok (.slice (some ⟨g, 0, none⟩) (l0.length + 1) c) W := by
     intro W
     have hel : Try.prog.elem 110 = 115 := by simp [Program.elem, Try.underlying110]
     have hu : Try.prog.underlying 110 = some (.slice (Try.prog.elem 110)) := by rw [hel]; exact Try.underlying110
     rw [run_slice_h W 110 (some ⟨g, 0, none⟩) l0.length c hu .i64 ((l0.length : Int) + 1) q2_4 q2_4, hel]
     simp [sizeOf, typeInfo, hi0, sliced, Result.andThen, add_plain]
    have hcf2 := cut_from (P := Try.prog) 110 115 .i64 Try.underlying110 hi0 4 hsz0 (some ⟨g, 0, none⟩) (l0.length + 1) c ((i : Int) + 1) q2_4 q2_4
    rw [show ((i : Int) + 1).toNat = i + 1 by omega, if_neg (show ¬ c = i + 1 by omega), show (some (⟨g, 0, none⟩ : Addr)).map (·.add ((i + 1) * 4)) = some ⟨g, (i + 1) * 4, none⟩ from by rw [Option.map_some, add_plain]] at hcf2
    have hcf3 := cut_from (P := Try.prog) 110 115 .i64 Try.underlying110 hi0 4 hsz0 (some ⟨g, 0, none⟩) (l0.length + 1) c (i : Int) q2_4 q2_4
    rw [Int.toNat_natCast, if_neg (show ¬ c = i by omega), show (some (⟨g, 0, none⟩ : Addr)).map (·.add (i * 4)) = some ⟨g, i * 4, none⟩ from by rw [Option.map_some, add_plain]] at hcf3
    have hdl : (in0.drop (i * 4)).length = (l0.length - i) * 4 := by rw [List.length_drop, hl0, Nat.sub_mul]
    have hcell : ∀ (W : World), W.heap[g]? = w.heap[g]? → ∀ j, j < c * 4 → (W.cell? ⟨g, j, none⟩).isSome = true := fun W hW j hj => by
     rw [cell_of_row W g j cur 115 (0, 0) (hW.trans hh), Array.getElem?_eq_getElem q2_4]
     rfl
    have hcp1 : ∀ ty, (Builtin.copy_ #[110, 110] ty #[.slice (some ⟨g, (i + 1) * 4, none⟩) (l0.length + 1 - (i + 1)) (c - (i + 1)), .slice (some ⟨g, i * 4, none⟩) (l0.length + 1 - i) (c - i)]).run Try.prog w.drew = .ok (goInt ((l0.length - i : Nat) : Int)) (w.drew.setCells g ((i + 1) * 4) (in0.drop (i * 4))) := fun ty =>
     run_copy_sz w.drew 110 110 ty 115 g ((i + 1) * 4) (l0.length + 1 - (i + 1)) (c - (i + 1)) ⟨g, i * 4, none⟩ (l0.length + 1 - i) (c - i) 4 (l0.length - i) (in0.drop (i * 4)) Try.underlying110 hsz (by simp only [Nat.min_def]; split <;> omega) hdl
      (fun j v hj => by rw [add_at]; exact hc0' (i * 4 + j) v (by rwa [List.getElem?_drop] at hj))
      (fun j hj => hcell w.drew rfl _ q2_4) (fun j hj => blk_frozen (w := w.drew) hh _) (fun v hv => h1c v (List.mem_of_mem_drop hv))
    obtain ⟨W1, hW1⟩ : ∃ W1, W1 = w.drew.setCells g ((i + 1) * 4) (in0.drop (i * 4)) := ⟨_, rfl⟩
    obtain ⟨cur1, e1, e2, e3⟩ := setCells_row (in0.drop (i * 4)) ((i + 1) * 4) w.drew cur hh q2_4
    have f1 : ∀ k, k ≠ g → W1.heap[k]? = w.heap[k]? := fun k hk => by rw [hW1]; exact setCells_far (w := w.drew) _ _ k hk
    obtain ⟨s1, s2, s3, s4⟩ := setCells_same g (in0.drop (i * 4)) ((i + 1) * 4) w.drew
    rw [← hW1] at hcp1 e1 s1 s2 s3 s4
    have hcp2 : ∀ ty, (Builtin.copy_ #[110, 110] ty #[.slice (some ⟨g, i * 4, none⟩) (l0.length + 1 - i) (c - i), .slice (some ⟨g2, 0, none⟩) 1 c2]).run Try.prog W1 = .ok (goInt 1) (W1.setCells g (i * 4) in2) := fun ty =>
     run_copy_sz W1 110 110 ty 115 g (i * 4) (l0.length + 1 - i) (c - i) ⟨g2, 0, none⟩ 1 c2 4 1 in2 Try.underlying110 hsz (by simp only [Nat.min_def]; split <;> omega) hl2
      (fun j v hj => by
       rw [add_plain]
       have := hc2' j v hj
       simp only [World.cell?] at this ⊢
       rw [f1 g2 hg2]
       exact this)
      (fun j hj => by rw [cell_of_row W1 g _ cur1 115 (0, 0) e1, Array.getElem?_eq_getElem q2_4]; rfl) (fun j hj => blk_frozen e1 _) h1v
    obtain ⟨W2, hW2⟩ : ∃ W2, W2 = W1.setCells g (i * 4) in2 := ⟨_, rfl⟩
    obtain ⟨cur3, e4, e5, e6⟩ := setCells_row in2 (i * 4) W1 cur1 e1 q2_4
    obtain ⟨s5, s6, s7, s8⟩ := setCells_same g in2 (i * 4) W1
    have f2 : ∀ k, k ≠ g → W2.heap[k]? = w.heap[k]? := fun k hk => by rw [hW2, setCells_far (w := W1) _ _ k hk]; exact f1 k hk
    rw [← hW2] at hcp2 e4 s5 s6 s7 s8
    have hcl : cur.toList.length = cur.size := Array.length_toList
    have hfin := cells_ins (z := 4) (n := l0.length) (i := i) (cur := cur.toList) (ins := in0) (v := in2) hi hl2 ht q2_4 e3 e6 q2_4
    have hlen : (l0.take i ++ [x] ++ l0.drop i).length = l0.length + 1 := by simp; omega
    have HR := Aside0.mk (show Kd.R k115 115 W2 w0.heap.size (fun k_ => ((P0_ k_ ∨ P2_ k_) ∨ w.heap.size ≤ k_)) (.slice (some ⟨g, 0, none⟩) (l0.length + 1) c) (l0.take i ++ [x] ++ l0.drop i) from by
     have h := R_ofcells (d := k115) (e := 115) (base := w0.heap.size) (g := g) (cap := c) (W := W2) (ok := fun k_ => ((P0_ k_ ∨ P2_ k_) ∨ w.heap.size ≤ k_)) k115_flat hrall hb e4 (by rw [hlen]; exact hroom) HCM.out (by rw [e5, e2]; exact hcs4) (by rw [hlen]; exact hfin) (.inl (.inl (hok0 g rfl)))
     rw [hlen] at h
     exact h)
    have hsize : W2.heap.size = w.heap.size := by rw [s8, s4]; rfl
    have HF := Aside0.mk f2
    have HK := Aside0.mk (show Kept w W2 (fun k_ => P0_ k_ ∨ P2_ k_) from ⟨by rw [hsize]; exact Nat.le_refl _, fun k _ hS => f2 k (fun e => hS (.inl (by rw [e]; exact hok0 g rfl)))⟩)
    have HB := Aside0.mk (show Below w0.heap.size w0 W2 from ⟨by rw [s5, s1]; exact hB.os, by rw [s6, s2]; exact hB.tape, by rw [s7, s3]; exact hB.output, by rw [hsize]; exact hB.size, fun k hk => (f2 k q2_4).trans (hB.block k hk)⟩)
    clear hown0 hown2 hr0 hr2 hok0 hok2 hh hh2 ht ht2 hrall hfin e1 e2 e3 e4 e5 e6 s1 s2 s3 s4 s5 s6 s7 s8 f1 f2 hsize hcell h1c h1v hc0' hc2' hC0 hC2 hB hp0_2 hp2_0 hlen hcl hdl hcf hW1 hW2 hl0 hl2 hin2
    have hw1 : wrap64 ((l0.length : Int) + 1) = (l0.length : Int) + 1 := wrap_suc _ hc3
    have hw2 : wrap64 ((i : Int) + 1) = (i : Int) + 1 := wrap_suc _ (Nat.lt_trans hlt hc3)
    have hw1' : IntKind.i64.wrap ((l0.length : Int) + 1) = (l0.length : Int) + 1 := (i64_w _).trans hw1
    have hw2' : IntKind.i64.wrap ((i : Int) + 1) = (i : Int) + 1 := (i64_w _).trans hw2
    go_enter Try.func90, Try.ntmps90
    go_wp2_with (simp only [hov])
    go_region_law (refine step_copy_known rfl _ _ 110 110 rfl _ _ (by simp [Act.eval, Act.put]) (by simp [Act.eval, Act.put]) (hcp1 _) ?_)
    go_wp2
    go_ret
    exact ⟨_, rfl, HR.out, HB.out, HK.out⟩
   ·have hrm : c < l0.length + 1 := by omega
    have hpos : 0 < l0.length + 1 - i := by omega
    have hct : ∀ W : World, (Instr.slice 110 (.slice (some ⟨g, 0, none⟩) l0.length c) none (some (.int .i64 (i : Int))) none).run Try.prog W = .ok (.slice (some ⟨g, 0, none⟩) i c) W := by
     have := cut_to (P := Try.prog) 110 115 .i64 Try.underlying110 hi0 (some ⟨g, 0, none⟩) l0.length c (i : Int) q2_4 q2_4 hnc
     simpa only [Int.toNat_natCast] using this
    have hcf1 := hcf
    rw [if_neg (show ¬ c = i by omega), show (some (⟨g, 0, none⟩ : Addr)).map (·.add (i * 4)) = some ⟨g, i * 4, none⟩ from by rw [Option.map_some, add_plain]] at hcf1
    have hdl : (in0.drop (i * 4)).length = (l0.length - i) * 4 := by rw [List.length_drop, hl0, Nat.sub_mul]
    have htl : (in0.take (i * 4)).length = i * 4 := by rw [List.length_take, hl0]; omega
    have hold : (Builtin.firstCells i0.size i (.slice (some ⟨g, 0, none⟩) i c)).run Try.prog w.drew = .ok (in0.take (i * 4)).toArray w.drew := by
     rw [hsz0]
     exact run_firstCells_some w.drew 4 i ⟨g, 0, none⟩ i c (in0.take (i * 4)) htl (fun j v hj => by
      rw [add_plain]
      rw [List.getElem?_take] at hj
      split at hj
      ·exact hc0' j v hj
      ·cases hj)
    have hik : i + (l0.length + 1 - i) = l0.length + 1 := by omega
    have hrz0 := fun ty => Lib.run_append_grow_zeros (P := Try.prog) w 110 3 ty 115 i0 _ .i64 .i64 Try.underlying110 Try.underlying3 hi0 HZ.out (some ⟨g, 0, none⟩) i c (in0.take (i * 4)) hold (l0.length + 1 - i) hpos q2_4 q2_4 q2_4 (by rw [HBY.out]; omega) (by rw [HBY.out, hik]; exact growslice_fits hrm q2_4)
    rw [hik] at hrz0
    rw [show ((l0.length + 1 - i : Nat) : Int) = (l0.length : Int) + 1 - (i : Int) by omega] at hrz0
    obtain ⟨G, hG⟩ : ∃ G, G = grownCap w (l0.length + 1) c 115 := ⟨_, rfl⟩
    obtain ⟨ROW, hROW⟩ : ∃ ROW : Array Value, ROW = (in0.take (i * 4)).toArray ++ Builtin.zeroCells ((.agg #[(.int .i64 0), (.int .i64 0), (.bool false), (.int .i64 0)]) : Value).cells (l0.length + 1 - i) ++ Builtin.zeroCells ((.agg #[(.int .i64 0), (.int .i64 0), (.bool false), (.int .i64 0)]) : Value).cells (grownCap w (l0.length + 1) c 115 - (l0.length + 1)) := ⟨_, rfl⟩
    have hGn : l0.length + 1 ≤ G := by rw [hG]; exact grownCap_ge w _ _ _
    have hGm : G ≤ maxLen := by rw [hG]; exact grownCap_le_maxLen w _ _ _ (by unfold maxLen; omega)
    have hRs : ROW.size = G * 4 := by
     rw [hROW, hG]
     simp only [Array.size_append, size_zeroCells, List.size_toArray, htl]
     have := grownCap_ge w (l0.length + 1) c 115
     show i * 4 + (l0.length + 1 - i) * 4 + (grownCap w (l0.length + 1) c 115 - (l0.length + 1)) * 4 = _
     omega
    have hRt : ROW.toList.take (i * 4) = in0.take (i * 4) := by
     rw [hROW]
     simp only [Array.toList_append, List.append_assoc]
     rw [List.take_append_of_le_length (by rw [htl]; exact Nat.le_refl _), List.take_of_length_le (by rw [htl]; exact Nat.le_refl _)]
    rw [← hROW, ← hG] at hrz0
    have HGM := Aside0.mk hGm
    clear hGm
    obtain ⟨W1, hW1⟩ : ∃ W1, W1 = w.drew.alloc (.cells ROW 115) := ⟨_, rfl⟩
    rw [← hW1] at hrz0
    have n1 : W1.heap[w.heap.size]? = some (.cells ROW 115 (0, 0)) := by rw [hW1]; exact heap_alloc_new w.drew _
    have n2 : ∀ k, k < w.heap.size → W1.heap[k]? = w.heap[k]? := fun k hk => by rw [hW1]; exact heap_alloc_old w.drew _ hk
    have n3 : W1.heap.size = w.heap.size + 1 := by rw [hW1]; simp
    have n4 : W1.os = w.os ∧ W1.tape = w.tape ∧ W1.output = w.output := by rw [hW1]; exact ⟨rfl, rfl, rfl⟩
    have hcf2 := cut_from (P := Try.prog) 110 115 .i64 Try.underlying110 hi0 4 hsz0 (some ⟨w.heap.size, 0, none⟩) (l0.length + 1) G (i : Int) q2_4 q2_4
    rw [Int.toNat_natCast, if_neg (show ¬ G = i by omega), show (some (⟨w.heap.size, 0, none⟩ : Addr)).map (·.add (i * 4)) = some ⟨w.heap.size, i * 4, none⟩ from by rw [Option.map_some, add_plain]] at hcf2
    have hcf3 := cut_from (P := Try.prog) 110 115 .i64 Try.underlying110 hi0 4 hsz0 (some ⟨w.heap.size, 0, none⟩) (l0.length + 1) G ((i : Int) + 1) q2_4 q2_4
    rw [show ((i : Int) + 1).toNat = i + 1 by omega, if_neg (show ¬ G = i + 1 by omega), show (some (⟨w.heap.size, 0, none⟩ : Addr)).map (·.add ((i + 1) * 4)) = some ⟨w.heap.size, (i + 1) * 4, none⟩ from by rw [Option.map_some, add_plain]] at hcf3
    have hcp1 : ∀ ty, (Builtin.copy_ #[110, 110] ty #[.slice (some ⟨w.heap.size, i * 4, none⟩) (l0.length + 1 - i) (G - i), .slice (some ⟨g2, 0, none⟩) 1 c2]).run Try.prog W1 = .ok (goInt 1) (W1.setCells w.heap.size (i * 4) in2) := fun ty =>
     run_copy_sz W1 110 110 ty 115 w.heap.size (i * 4) (l0.length + 1 - i) (G - i) ⟨g2, 0, none⟩ 1 c2 4 1 in2 Try.underlying110 hsz (by simp only [Nat.min_def]; split <;> omega) hl2
      (fun j v hj => by
       rw [add_plain]
       have := hc2' j v hj
       simp only [World.cell?] at this ⊢
       rw [n2 g2 hg2l]
       exact this)
      (fun j hj => by rw [cell_of_row W1 w.heap.size _ ROW 115 (0, 0) n1, Array.getElem?_eq_getElem q2_4]; rfl) (fun j hj => blk_frozen n1 _) h1v
    obtain ⟨W2, hW2⟩ : ∃ W2, W2 = W1.setCells w.heap.size (i * 4) in2 := ⟨_, rfl⟩
    obtain ⟨cur1, e1, e2, e3⟩ := setCells_row in2 (i * 4) W1 ROW n1 q2_4
    have f1 : ∀ k, k < w.heap.size → W2.heap[k]? = w.heap[k]? := fun k hk => by rw [hW2, setCells_far (w := W1) _ _ k q2_4]; exact n2 k hk
    obtain ⟨s1, s2, s3, s4⟩ := setCells_same w.heap.size in2 (i * 4) W1
    rw [← hW2] at hcp1 e1 s1 s2 s3 s4
    have hcp2 : ∀ ty, (Builtin.copy_ #[110, 110] ty #[.slice (some ⟨w.heap.size, (i + 1) * 4, none⟩) (l0.length + 1 - (i + 1)) (G - (i + 1)), .slice (some ⟨g, i * 4, none⟩) (l0.length - i) (c - i)]).run Try.prog W2.drew = .ok (goInt ((l0.length - i : Nat) : Int)) (W2.drew.setCells w.heap.size ((i + 1) * 4) (in0.drop (i * 4))) := fun ty =>
     run_copy_sz W2.drew 110 110 ty 115 w.heap.size ((i + 1) * 4) (l0.length + 1 - (i + 1)) (G - (i + 1)) ⟨g, i * 4, none⟩ (l0.length - i) (c - i) 4 (l0.length - i) (in0.drop (i * 4)) Try.underlying110 hsz (by simp only [Nat.min_def]; split <;> omega) hdl
      (fun j v hj => by
       rw [add_at]
       have := hc0' (i * 4 + j) v (by rwa [List.getElem?_drop] at hj)
       have h2 : W2.heap[g]? = w.heap[g]? := f1 g hgl
       show W2.cell? _ = _
       simp only [World.cell?] at this ⊢
       rw [h2]
       exact this)
      (fun j hj => by
       show (W2.cell? _).isSome = true
       rw [cell_of_row W2 w.heap.size _ cur1 115 (0, 0) e1, Array.getElem?_eq_getElem q2_4]
       rfl) (fun j hj => blk_frozen (w := W2.drew) e1 _) (fun v hv => h1c v (List.mem_of_mem_drop hv))
    obtain ⟨W3, hW3⟩ : ∃ W3, W3 = W2.drew.setCells w.heap.size ((i + 1) * 4) (in0.drop (i * 4)) := ⟨_, rfl⟩
    obtain ⟨cur3, e4, e5, e6⟩ := setCells_row (in0.drop (i * 4)) ((i + 1) * 4) W2.drew cur1 e1 q2_4
    obtain ⟨s5, s6, s7, s8⟩ := setCells_same w.heap.size (in0.drop (i * 4)) ((i + 1) * 4) W2.drew
    have f2 : ∀ k, k < w.heap.size → W3.heap[k]? = w.heap[k]? := fun k hk => by rw [hW3, setCells_far (w := W2.drew) _ _ k q2_4]; exact f1 k hk
    rw [← hW3] at hcp2 e4 s5 s6 s7 s8
    have hcl : ROW.toList.length = ROW.size := Array.length_toList
    have hfin := cells_grow (z := 4) (n := l0.length) (i := i) (row := ROW.toList) (ins := in0) (v := in2) hi hl2 hl0 hRt q2_4 e3 e6
    have hlen : (l0.take i ++ [x] ++ l0.drop i).length = l0.length + 1 := by simp; omega
    have HR := Aside0.mk (show Kd.R k115 115 W3 w0.heap.size (fun k_ => ((P0_ k_ ∨ P2_ k_) ∨ w.heap.size ≤ k_)) (.slice (some ⟨w.heap.size, 0, none⟩) (l0.length + 1) G) (l0.take i ++ [x] ++ l0.drop i) from by
     have h := R_ofcells (d := k115) (e := 115) (base := w0.heap.size) (g := w.heap.size) (cap := G) (W := W3) (ok := fun k_ => ((P0_ k_ ∨ P2_ k_) ∨ w.heap.size ≤ k_)) k115_flat hrall hB.size e4 (by rw [hlen]; exact hGn) HGM.out (by rw [e5, e2]; exact hRs) (by rw [hlen]; exact hfin) (.inr (Nat.le_refl _))
     rw [hlen] at h
     exact h)
    have hsize : W3.heap.size = w.heap.size + 1 := by rw [s8]; show W2.heap.size = _; rw [s4, n3]
    have HK := Aside0.mk (show Kept w W3 (fun k_ => P0_ k_ ∨ P2_ k_) from ⟨by rw [hsize]; omega, fun k hk _ => f2 k hk⟩)
    have HB := Aside0.mk (show Below w0.heap.size w0 W3 from ⟨by rw [s5]; show W2.os = _; rw [s1, n4.1]; exact hB.os, by rw [s6]; show W2.tape = _; rw [s2, n4.2.1]; exact hB.tape, by rw [s7]; show W2.output = _; rw [s3, n4.2.2]; exact hB.output, by rw [hsize]; have := hB.size; omega, fun k hk => (f2 k (by have := hB.size; omega)).trans (hB.block k hk)⟩)
    have hbr : decide ((c : Int) < (l0.length : Int) + 1) = true := decide_eq_true q2_4
    have hw3 : wrap64 ((l0.length : Int) + 1 - (i : Int)) = (l0.length : Int) + 1 - (i : Int) := wrap_dif _ _ hc3 hi
    have hw3' : IntKind.i64.wrap ((l0.length : Int) + 1 - (i : Int)) = (l0.length : Int) + 1 - (i : Int) := (i64_w _).trans hw3
    have HRZ := Aside0.mk hrz0
    clear hrz0 hown0 hown2 hr0 hr2 hok0 hok2 hh hh2 ht ht2 hrall hfin e1 e2 e3 e4 e5 e6 s1 s2 s3 s4 s5 s6 s7 s8 f1 f2 n1 n2 n3 n4 hsize h1c h1v hc0' hc2' hC0 hC2 hB hp0_2 hp2_0 hlen hcl hdl htl hcf hW1 hW2 hW3 hl0 hl2 hin2 hold hik hROW hRs hRt hG
    have hw1 : wrap64 ((l0.length : Int) + 1) = (l0.length : Int) + 1 := wrap_suc _ hc3
    have hw2 : wrap64 ((i : Int) + 1) = (i : Int) + 1 := wrap_suc _ (Nat.lt_trans hlt hc3)
    have hw1' : IntKind.i64.wrap ((l0.length : Int) + 1) = (l0.length : Int) + 1 := (i64_w _).trans hw1
    have hw2' : IntKind.i64.wrap ((i : Int) + 1) = (i : Int) + 1 := (i64_w _).trans hw2
    have hrz := HRZ.out
    go_enter Try.func90, Try.ntmps90
    go_wp2_with (at_builtin; refine Lib.wpList_append_run _ rfl _ _ _ _ rfl _ _ rfl rfl _ _ (hrz _) ?_)
    go_region_law (refine step_copy_known rfl _ _ 110 110 rfl _ _ (by simp [Act.eval, Act.put]) (by simp [Act.eval, Act.put]) (hcp2 _) ?_)
    go_wp2
    go_ret
    exact ⟨_, rfl, HR.out, HB.out, HK.out⟩
 ·cases h

/-! ### roster_Enrol: function 56 -/
def roster_Enrol.j0 : Nat → List (S115) → Int → List (S115) → Int → Bool → Bool → Option ((List (S115)) × Int)
 | 0, _, _, _, _, _, _ => none
 | k + 1, x0, x1, x6, x7, x8, x17 => if x17 = true then (some (x6, 1)) else (if x8 = true then (if 0 ≤ x7 then (if x7 < (x0.length : Int) then (if ((rd_T115 x0 x7).f2 = true) then (if ((rd_T115 x0 x7).f1) ≥ 1000 then (some (x6, 16)) else (if x7 < (x6.length : Int) then (some ((x6.set (x7 : Int).toNat (⟨x1, wrap64 (((rd_T115 x0 x7).f1) + 1), false, 0⟩ : S115)), 0)) else (none))) else (some (x6, 12))) else (none)) else (none)) else ((roster_Device_90.f x6 x7 (([(⟨x1, 1, false, 0⟩ : S115)] : List (S115)))).bind fun t115 => (some (t115, 0))))
def roster_Enrol.f (k : Nat) (l0 : List (S115)) (a1 : Int) : Option ((List (S115)) × Int) := (roster_Device_88.f l0).bind fun t103 => ((roster_place.f l0 a1).bind fun bt106 => (if a1 < 0 then (roster_Enrol.j0 k l0 a1 t103 bt106.1 bt106.2 true) else (roster_Enrol.j0 k l0 a1 t103 bt106.1 bt106.2 (decide (a1 ≥ 16)))))
theorem roster_Enrol.mono_l : ∀ k, (∀ y0 y1 y2 y3 y4 y5, LeO (roster_Enrol.j0 k y0 y1 y2 y3 y4 y5) (roster_Enrol.j0 (k + 1) y0 y1 y2 y3 y4 y5))
 | 0 => fun _ _ _ _ _ _ r h => by simp [roster_Enrol.j0] at h
 | k + 1 => by
  have ih0 := roster_Enrol.mono_l k
  ·intro y0 y1 y2 y3 y4 y5
   unfold roster_Enrol.j0
   repeat' first
   | (with_reducible exact ih0 _ _ _ _ _ _)
   | (with_reducible exact LeO.refl _)
   | (with_reducible exact LeO.none _)
   | (with_reducible refine LeO.ite ?_ ?_)
   | (with_reducible refine LeO.bind ?_ (fun _ => ?_))
   | exact ih0 _ _ _ _ _ _
   | exact LeO.none _
   | refine LeO.ite ?_ ?_
   | refine LeO.bind ?_ (fun _ => ?_)
theorem roster_Enrol.mono : ∀ a0 a1 k, LeO (roster_Enrol.f k a0 a1) (roster_Enrol.f (k + 1) a0 a1) := by
 intro a0 a1 k
 have ih0 := roster_Enrol.mono_l k
 unfold roster_Enrol.f
 repeat' first
   | (with_reducible exact ih0 _ _ _ _ _ _)
   | (with_reducible exact LeO.refl _)
   | (with_reducible exact LeO.none _)
   | (with_reducible refine LeO.ite ?_ ?_)
   | (with_reducible refine LeO.bind ?_ (fun _ => ?_))
   | exact ih0 _ _ _ _ _ _
   | exact LeO.none _
   | refine LeO.ite ?_ ?_
   | refine LeO.bind ?_ (fun _ => ?_)
set_option maxHeartbeats 8000000 in
set_option maxRecDepth 100000 in
theorem roster_Enrol.calls (k : Nat) (A0 : Option Addr) (c0 : Nat) (l0 : List (S115)) (a1 : Int) (r1 : List (S115)) (r2 : Int) (w : World) (hr0 : Kd.C k115 w A0 l0.length l0) (hc0 : l0.length ≤ c0) (h : roster_Enrol.f k l0 a1 = some (r1, r2)) :
  Calls Try.prog 56 #[.slice A0 l0.length c0, .int .i64 a1] w fun e w' => ∃ v0_ : Value, e = .returned (.tuple #[v0_, .int .i64 r2]) ∧ Kd.R k115 115 w' w.heap.size (fun _ => True) v0_ r1 ∧ Below w.heap.size w w' := by
 have hu115 := Try.underlying115
 have HR0 := Aside0.mk hr0
 have HC0 := Aside0.mk hc0
 clear hr0 hc0
 have HB := Aside0.mk (Below.refl w.heap.size w)
 have H : ((roster_Device_88.f l0).bind fun t103 => ((roster_place.f l0 a1).bind fun bt106 => (if a1 < 0 then (roster_Enrol.j0 k l0 a1 t103 bt106.1 bt106.2 true) else (roster_Enrol.j0 k l0 a1 t103 bt106.1 bt106.2 (decide (a1 ≥ 16)))))) = some (r1, r2) := h
 clear h
 replace H := Option.bind_eq_some_iff.mp H
 obtain ⟨t103, A30, H⟩ := H
 replace H : ((roster_place.f l0 a1).bind fun bt106 => (if a1 < 0 then (roster_Enrol.j0 k l0 a1 t103 bt106.1 bt106.2 true) else (roster_Enrol.j0 k l0 a1 t103 bt106.1 bt106.2 (decide (a1 ≥ 16))))) = some (r1, r2) := H
 have A3 := Aside0.mk A30
 clear A30
 replace H := Option.bind_eq_some_iff.mp H
 obtain ⟨⟨t106, t107⟩, A40, H⟩ := H
 replace H : (if a1 < 0 then (roster_Enrol.j0 k l0 a1 t103 t106 t107 true) else (roster_Enrol.j0 k l0 a1 t103 t106 t107 (decide (a1 ≥ 16)))) = some (r1, r2) := H
 have A4 := Aside0.mk A40
 clear A40
 have HC5 := Aside0.mk H
 clear H
 go_enter Try.func56, Try.ntmps56
 go_upto_region 3 with (first | ((with_reducible refine gate_callee (f := 88) rfl ?_); refine goesL_ (some 10) rfl rfl Try.func88 (by kernel_rfl) rfl #[.slice A0 l0.length c0] rfl q2_3 ?_; (with_reducible refine (roster_Device_88.calls _ _ l0 t103 _ ?side1 ?side2 A3.out).mono ?_); (case side1 => repeat (first | exact HR0.out | (with_reducible refine Kd.C_alloc ?_ _) | (with_reducible refine Kd.C_drewN ?_ _) | (with_reducible refine Kd.C_drew ?_))); (case side2 => exact HC0.out); rintro e w6 ⟨v104, rfl, ho0, hb⟩; refine ⟨_, rfl, ?_⟩; have n0_ := Aside0.mk (Kd.R_lower ho0 (below_size q2_2)); have n1_ := Aside0.mk (below_step q2_2 hb); clear HB; have HO105 := n0_; have HB := n1_; clear n0_ n1_; (try clear hb); (try clear hb2); (try clear hk); (try clear hi); (try clear ho0)) | ((with_reducible refine gate_callee (f := 89) rfl ?_); refine goesL_ (some 14) rfl rfl Try.func89 (by kernel_rfl) rfl #[.slice A0 l0.length c0, .int .i64 a1] rfl q2_3 ?_; (with_reducible refine (roster_place.calls _ _ l0 a1 t106 t107 _ ?side1 ?side2 A4.out).mono ?_); (case side1 => repeat (first | exact (Kd.C_below HR0.out HB.out) | (with_reducible refine Kd.C_alloc ?_ _) | (with_reducible refine Kd.C_drewN ?_ _) | (with_reducible refine Kd.C_drew ?_))); (case side2 => exact HC0.out); rintro e w7 ⟨rfl, hb⟩; refine ⟨_, rfl, ?_⟩; have n0_ := Aside0.mk (Kd.R_below (by (with_reducible repeat (first | apply Kd.R_alloc | apply Kd.R_drewN | apply Kd.R_drew)); exact HO105.out) hb); have n1_ := Aside0.mk (below_step q2_2 hb); clear HO105; clear HB; have HO105 := n0_; have HB := n1_; clear n0_ n1_; (try clear hb); (try clear hb2); (try clear hk); (try clear hi)))
 (try simp only [Act.put, List.setIfInBounds_toArray, List.set_cons_zero, List.set_cons_succ])
 go_cut [17] (fun v17 wc => ∃ (kq : Nat) (x17_4 : Bool), v17 = .bool x17_4 ∧ Aside0 (roster_Enrol.j0 kq l0 a1 t103 t106 t107 x17_4 = some (r1, r2)) ∧ Aside0 (kq ≤ k) ∧ Aside0 (Kd.R k115 115 wc w.heap.size (fun _ => True) v104 t103) ∧ Aside0 (Below w.heap.size w wc))
 case first =>
  have H := HC5.out
  clear HC5
  by_cases c8 : a1 < 0
  ·rw [if_pos c8] at H
   have c8b0 : decide (a1 < 0) = true := decide_eq_true c8
   clear c8
   (first | rw [c8b0] | (simp only [i64_w, i32_w]; rw [c8b0]) | rw [c8b1] | rw [c8b2] | skip)
   have H' := Aside0.mk H
   clear H
   go_wp2
   go_meet
   case rel => exact ⟨_, (true), (by first | rfl | (simp; done) | (simp [*]; done)), H', ⟨by first | omega | exact Nat.le_refl _⟩, ⟨by (with_reducible repeat (first | apply Kd.R_alloc | apply Kd.R_drewN | apply Kd.R_drew)); exact HO105.out⟩, ⟨by repeat (first | (with_reducible first | exact HB.out | apply below_alloc | apply pw_below_drewN | apply below_drew1) | exact HB.out)⟩⟩
  ·rw [if_neg c8] at H
   have c8b0 : decide (a1 < 0) = false := decide_eq_false c8
   clear c8
   (first | rw [c8b0] | (simp only [i64_w, i32_w]; rw [c8b0]) | rw [c8b1] | rw [c8b2] | skip)
   have H' := Aside0.mk H
   clear H
   go_wp2
   go_meet
   case rel => exact ⟨_, (decide (a1 ≥ 16)), (by first | rfl | (simp; done) | (simp [*]; done)), H', ⟨by first | omega | exact Nat.le_refl _⟩, ⟨by (with_reducible repeat (first | apply Kd.R_alloc | apply Kd.R_drewN | apply Kd.R_drew)); exact HO105.out⟩, ⟨by repeat (first | (with_reducible first | exact HB.out | apply below_alloc | apply pw_below_drewN | apply below_drew1) | exact HB.out)⟩⟩
 case rest =>
  clear HC5
  try clear p2
  try clear c5
  try clear c8
  try clear c8b0
  try clear c8b1
  try clear c8b2
  obtain ⟨kq, x17_4, rfl, HA, HJ4, HO_6, HB⟩ := hcut
  cases kq with
  | zero => exact absurd HA.out (by simp [roster_Enrol.j0])
  | succ kj4 =>
   have H := HA.out
   clear HA
   simp only [roster_Enrol.j0] at H
   by_cases c9 : x17_4 = true
   ·subst c9
    have H1 : (some (t103, 1)) = some (r1, r2) := by rw [if_pos rfl] at H; exact H
    clear H
    have H := H1
    clear H1
    simp only [Option.some.injEq, Prod.mk.injEq] at H
    obtain ⟨rfl, rfl⟩ := H
    go_wp2
    go_ret2
    exact ⟨_, by first | rfl | (simp [errW_none, errW_some] <;> rfl) | (simp [*, errW_none, errW_some] <;> rfl), by (with_reducible repeat (first | apply Kd.R_alloc | apply Kd.R_drewN | apply Kd.R_drew)); exact HO_6.out, by repeat (first | (with_reducible first | exact HB.out | apply below_alloc | apply pw_below_drewN | apply below_drew1) | exact HB.out)⟩
   ·replace c9 := Bool.eq_false_iff.mpr c9
    subst c9
    have H1 : (if t107 = true then (if 0 ≤ t106 then (if t106 < (l0.length : Int) then (if ((rd_T115 l0 t106).f2 = true) then (if ((rd_T115 l0 t106).f1) ≥ 1000 then (some (t103, 16)) else (if t106 < (t103.length : Int) then (some ((t103.set (t106 : Int).toNat (⟨a1, wrap64 (((rd_T115 l0 t106).f1) + 1), false, 0⟩ : S115)), 0)) else (none))) else (some (t103, 12))) else (none)) else (none)) else ((roster_Device_90.f t103 t106 (([(⟨a1, 1, false, 0⟩ : S115)] : List (S115)))).bind fun t115 => (some (t115, 0)))) = some (r1, r2) := by rw [if_neg (show ¬ (false = true) by decide)] at H; exact H
    clear H
    have H := H1
    clear H1
    by_cases c10 : t107 = true
    ·subst c10
     have H1 : (if 0 ≤ t106 then (if t106 < (l0.length : Int) then (if ((rd_T115 l0 t106).f2 = true) then (if ((rd_T115 l0 t106).f1) ≥ 1000 then (some (t103, 16)) else (if t106 < (t103.length : Int) then (some ((t103.set (t106 : Int).toNat (⟨a1, wrap64 (((rd_T115 l0 t106).f1) + 1), false, 0⟩ : S115)), 0)) else (none))) else (some (t103, 12))) else (none)) else (none)) = some (r1, r2) := by rw [if_pos rfl] at H; exact H
     clear H
     have H := H1
     clear H1
     by_cases c11 : 0 ≤ t106
     ·rw [if_pos c11] at H
      have c11b0 : decide (0 ≤ t106) = true := decide_eq_true c11
      clear c11
      by_cases c12 : t106 < (l0.length : Int)
      ·rw [if_pos c12] at H
       have c12b0 : decide (t106 < (l0.length : Int)) = true := decide_eq_true c12
       clear c12
       obtain ⟨bq13, hbq13⟩ : ∃ b_ : Bool, b_ = ((rd_T115 l0 t106).f2) := ⟨_, rfl⟩
       replace H : (if (bq13 = true) then (if ((rd_T115 l0 t106).f1) ≥ 1000 then (some (t103, 16)) else (if t106 < (t103.length : Int) then (some ((t103.set (t106 : Int).toNat (⟨a1, wrap64 (((rd_T115 l0 t106).f1) + 1), false, 0⟩ : S115)), 0)) else (none))) else (some (t103, 12))) = some (r1, r2) := by rw [← hbq13] at H; exact H
       have Nbq13 := Aside0.mk hbq13
       clear hbq13
       by_cases c14 : (bq13 = true)
       ·subst c14
        have H1 : (if ((rd_T115 l0 t106).f1) ≥ 1000 then (some (t103, 16)) else (if t106 < (t103.length : Int) then (some ((t103.set (t106 : Int).toNat (⟨a1, wrap64 (((rd_T115 l0 t106).f1) + 1), false, 0⟩ : S115)), 0)) else (none))) = some (r1, r2) := by rw [if_pos rfl] at H; exact H
        clear H
        have H := H1
        clear H1
        by_cases c15 : ((rd_T115 l0 t106).f1) ≥ 1000
        ·rw [if_pos c15] at H
         have c15b0 : decide (1000 ≤ ((rd_T115 l0 t106).f1)) = true := decide_eq_true c15
         clear c15
         simp only [Option.some.injEq, Prod.mk.injEq] at H
         obtain ⟨rfl, rfl⟩ := H
         have p108 : 0 ≤ (t106 : Int) := of_decide_eq_true q2_1
         have q108 : t106 < (l0.length : Int) := of_decide_eq_true q2_1
         obtain ⟨ad108, e108, hx108_0, hx108_1, hx108_2, hx108_3⟩ := at_T115 HR0.out t106 p108 q108
         (try rw [← Nbq13.out] at hx108_2)
         cases e108
         replace hx108_0 := (HB.out.cell (World.block_lt_of_cell? w _ hx108_0)).trans hx108_0
         replace hx108_1 := (HB.out.cell (World.block_lt_of_cell? w _ hx108_1)).trans hx108_1
         replace hx108_2 := (HB.out.cell (World.block_lt_of_cell? w _ hx108_2)).trans hx108_2
         replace hx108_3 := (HB.out.cell (World.block_lt_of_cell? w _ hx108_3)).trans hx108_3
         replace p108 := eq_true p108
         replace q108 := eq_true q108
         have p109 : 0 ≤ (t106 : Int) := of_decide_eq_true q2_1
         have q109 : t106 < (l0.length : Int) := of_decide_eq_true q2_1
         obtain ⟨ad109, e109, hx109_0, hx109_1, hx109_2, hx109_3⟩ := at_T115 HR0.out t106 p109 q109
         (try rw [← Nbq13.out] at hx109_2)
         obtain rfl : ad108 = ad109 := (by injection e109)
         replace hx109_0 := (HB.out.cell (World.block_lt_of_cell? w _ hx109_0)).trans hx109_0
         replace hx109_1 := (HB.out.cell (World.block_lt_of_cell? w _ hx109_1)).trans hx109_1
         replace hx109_2 := (HB.out.cell (World.block_lt_of_cell? w _ hx109_2)).trans hx109_2
         replace hx109_3 := (HB.out.cell (World.block_lt_of_cell? w _ hx109_3)).trans hx109_3
         replace p109 := eq_true p109
         replace q109 := eq_true q109
         go_wp2
         go_ret2
         exact ⟨_, by first | rfl | (simp [errW_none, errW_some] <;> rfl) | (simp [*, errW_none, errW_some] <;> rfl), by (with_reducible repeat (first | apply Kd.R_alloc | apply Kd.R_drewN | apply Kd.R_drew)); exact HO_6.out, by repeat (first | (with_reducible first | exact HB.out | apply below_alloc | apply pw_below_drewN | apply below_drew1) | exact HB.out)⟩
        ·rw [if_neg c15] at H
         have c15b0 : decide (1000 ≤ ((rd_T115 l0 t106).f1)) = false := decide_eq_false c15
         clear c15
         by_cases c16 : t106 < (t103.length : Int)
         ·rw [if_pos c16] at H
          have c16b0 : decide (t106 < (t103.length : Int)) = true := decide_eq_true c16
          clear c16
          obtain ⟨y111, hy111⟩ : ∃ y_ : List (S115), y_ = (t103.set (t106 : Int).toNat (⟨a1, wrap64 (((rd_T115 l0 t106).f1) + 1), false, 0⟩ : S115)) := ⟨_, rfl⟩
          replace H : (some (y111, 0)) = some (r1, r2) := by first | (rw [hy111]; with_reducible exact H) | (have H2_ := (Option.bind_some _ _).symm.trans H; rw [hy111]; with_reducible exact H2_) | (have H2_ := (Option.bind_some _ _).symm.trans H; with_reducible exact H2_) | with_reducible exact H | (rw [hy111]; exact H) | exact H
          have Ny111 := Aside0.mk hy111
          clear hy111
          simp only [Option.some.injEq, Prod.mk.injEq] at H
          obtain ⟨rfl, rfl⟩ := H
          have p108 : 0 ≤ (t106 : Int) := of_decide_eq_true q2_1
          have q108 : t106 < (l0.length : Int) := of_decide_eq_true q2_1
          obtain ⟨ad108, e108, hx108_0, hx108_1, hx108_2, hx108_3⟩ := at_T115 HR0.out t106 p108 q108
          (try rw [← Nbq13.out] at hx108_2)
          cases e108
          replace hx108_0 := (HB.out.cell (World.block_lt_of_cell? w _ hx108_0)).trans hx108_0
          replace hx108_1 := (HB.out.cell (World.block_lt_of_cell? w _ hx108_1)).trans hx108_1
          replace hx108_2 := (HB.out.cell (World.block_lt_of_cell? w _ hx108_2)).trans hx108_2
          replace hx108_3 := (HB.out.cell (World.block_lt_of_cell? w _ hx108_3)).trans hx108_3
          replace p108 := eq_true p108
          replace q108 := eq_true q108
          have p109 : 0 ≤ (t106 : Int) := of_decide_eq_true q2_1
          have q109 : t106 < (l0.length : Int) := of_decide_eq_true q2_1
          obtain ⟨ad109, e109, hx109_0, hx109_1, hx109_2, hx109_3⟩ := at_T115 HR0.out t106 p109 q109
          (try rw [← Nbq13.out] at hx109_2)
          obtain rfl : ad108 = ad109 := (by injection e109)
          replace hx109_0 := (HB.out.cell (World.block_lt_of_cell? w _ hx109_0)).trans hx109_0
          replace hx109_1 := (HB.out.cell (World.block_lt_of_cell? w _ hx109_1)).trans hx109_1
          replace hx109_2 := (HB.out.cell (World.block_lt_of_cell? w _ hx109_2)).trans hx109_2
          replace hx109_3 := (HB.out.cell (World.block_lt_of_cell? w _ hx109_3)).trans hx109_3
          replace p109 := eq_true p109
          replace q109 := eq_true q109
          have p110 : 0 ≤ (t106 : Int) := of_decide_eq_true q2_1
          have q110 : t106 < (l0.length : Int) := of_decide_eq_true q2_1
          obtain ⟨ad110, e110, hx110_0, hx110_1, hx110_2, hx110_3⟩ := at_T115 HR0.out t106 p110 q110
          (try rw [← Nbq13.out] at hx110_2)
          obtain rfl : ad108 = ad110 := (by injection e110)
          replace hx110_0 := (HB.out.cell (World.block_lt_of_cell? w _ hx110_0)).trans hx110_0
          replace hx110_1 := (HB.out.cell (World.block_lt_of_cell? w _ hx110_1)).trans hx110_1
          replace hx110_2 := (HB.out.cell (World.block_lt_of_cell? w _ hx110_2)).trans hx110_2
          replace hx110_3 := (HB.out.cell (World.block_lt_of_cell? w _ hx110_3)).trans hx110_3
          replace p110 := eq_true p110
          replace q110 := eq_true q110
          have p17 : 0 ≤ (t106 : Int) := of_decide_eq_true q2_1
          have q17 : (t106 : Int) < ((t103.length : Int) : Int) := of_decide_eq_true q2_1
          obtain ⟨go17, co17, eo17, gb17, gl17, cl17, HG17⟩ := Kd.R_form HO_6.out q2_4
          (first | cases eo17 | (injection eo17 with ea_ en_ ec_; (first | subst ea_ | (injection ea_ with ea_; subst ea_)); subst ec_; clear en_))
          have GB17 := Aside0.mk gb17
          have GG17 := Aside0.mk HG17
          clear gb17 gl17 HG17
          obtain ⟨ce17, hcl17, hM17, hcc17, hfr17⟩ := Kd.R_elem HO_6.out z115 (t106 : Int) p17 q17
          obtain rfl := k115_openM hM17
          have hx17_0 : wc.cell? ⟨go17, (t106 : Int).toNat * 4, none⟩ = some (.int .i64 ((rd_T115 t103 t106).f0)) := hcc17 0 _ rfl
          have hx17_1 : wc.cell? ⟨go17, (t106 : Int).toNat * 4 + 1, none⟩ = some (.int .i64 ((rd_T115 t103 t106).f1)) := hcc17 1 _ rfl
          have hx17_2 : wc.cell? ⟨go17, (t106 : Int).toNat * 4 + 2, none⟩ = some (.bool ((rd_T115 t103 t106).f2)) := hcc17 2 _ rfl
          have hx17_3 : wc.cell? ⟨go17, (t106 : Int).toNat * 4 + 3, none⟩ = some (.int .i64 ((rd_T115 t103 t106).f3)) := hcc17 3 _ rfl
          have hf17_0 : wc.frozen? ⟨go17, (t106 : Int).toNat * 4, none⟩ = false := hfr17 0
          have hf17_1 : wc.frozen? ⟨go17, (t106 : Int).toNat * 4 + 1, none⟩ = false := hfr17 1
          have hf17_2 : wc.frozen? ⟨go17, (t106 : Int).toNat * 4 + 2, none⟩ = false := hfr17 2
          have hf17_3 : wc.frozen? ⟨go17, (t106 : Int).toNat * 4 + 3, none⟩ = false := hfr17 3
          clear hcl17 hcc17 hfr17 hM17
          replace p17 := eq_true p17
          replace q17 := eq_true q17
          have HX18 := Aside0.mk (show Kd.R k115 115 wc w.heap.size (fun _ => True) (.slice (some ⟨go17, 0, none⟩) t103.length co17) t103 from q2_5)
          obtain ⟨ce18, hcl18, hM18, hcc18, hfr18⟩ := Kd.R_elem HX18.out z115 (t106 : Int) (of_decide_eq_true q2_1) (by have h_ : (t106 : Int) < ((t103.length : Int) : Int) := of_decide_eq_true q2_1; first | exact h_ | (have e_ := (Kd.R_reads' HO_6.out).1; omega) | simpa using h_)
          obtain rfl := k115_openM hM18
          have HP18 := Kd.R_seg HX18.out (t106 : Int) (of_decide_eq_true q2_1) (by have h_ : (t106 : Int) < ((t103.length : Int) : Int) := of_decide_eq_true q2_1; first | exact h_ | (have e_ := (Kd.R_reads' HO_6.out).1; omega) | simpa using h_) (seg := [.int .i64 a1, .int .i64 (wrap64 (((rd_T115 l0 t106).f1) + 1)), .bool false, .int .i64 0]) (j := 0) hcl18 hcc18 (show 4 ≤ 4 from by decide) (x' := (⟨a1, wrap64 (((rd_T115 l0 t106).f1) + 1), false, 0⟩ : S115)) (k115_mkM _ _ _ (⟨a1, wrap64 (((rd_T115 l0 t106).f1) + 1), false, 0⟩ : S115) ) (fun _ hk => hk)
          have hx18_0 := hcc18 0 _ rfl
          (try simp only [show (k115).sz = 4 from rfl, Nat.mul_one, Nat.add_zero] at hx18_0)
          have hf18_0 := hfr18 0
          (try simp only [show (k115).sz = 4 from rfl, Nat.mul_one, Nat.add_zero] at hf18_0)
          have hx18_1 := hcc18 1 _ rfl
          (try simp only [show (k115).sz = 4 from rfl, Nat.mul_one, Nat.add_zero] at hx18_1)
          have hf18_1 := hfr18 1
          (try simp only [show (k115).sz = 4 from rfl, Nat.mul_one, Nat.add_zero] at hf18_1)
          have hx18_2 := hcc18 2 _ rfl
          (try simp only [show (k115).sz = 4 from rfl, Nat.mul_one, Nat.add_zero] at hx18_2)
          have hf18_2 := hfr18 2
          (try simp only [show (k115).sz = 4 from rfl, Nat.mul_one, Nat.add_zero] at hf18_2)
          have hx18_3 := hcc18 3 _ rfl
          (try simp only [show (k115).sz = 4 from rfl, Nat.mul_one, Nat.add_zero] at hx18_3)
          have hf18_3 := hfr18 3
          (try simp only [show (k115).sz = 4 from rfl, Nat.mul_one, Nat.add_zero] at hf18_3)
          clear hcl18 hcc18 hfr18 hM18
          go_wp2_with (first | ((with_reducible refine gate_store (t := 115) (p := 60) rfl ?_); refine store_event (t := 115) (p := 60) (v := ?vo_w19) (w1 := ((((wc.setCell ⟨go17, (t106 : Int).toNat * 4, none⟩ (.int .i64 a1)).setCell ⟨go17, (t106 : Int).toNat * 4 + 1, none⟩ (.int .i64 (wrap64 (((rd_T115 l0 t106).f1) + 1)))).setCell ⟨go17, (t106 : Int).toNat * 4 + 2, none⟩ (.bool false)).setCell ⟨go17, (t106 : Int).toNat * 4 + 3, none⟩ (.int .i64 0))) ?hg ?ho ?hn ?hr ?_; (case ho => rfl); (case hg => rfl); (case hn => rfl); (case hr => first | (go_simp; done) | (go_simp; rfl)); intro w19 hw; have hg : wc.grownBy w19 (some go17) := (by rw [hw]; exact HP18.2); have hp_ : Kd.R k115 115 w19 w.heap.size (fun _ => True) (.slice (some ⟨go17, 0, none⟩) t103.length co17) y111 := (by rw [hw, Ny111.out]; exact HP18.1); clear HP18; have n0_ := Aside0.mk (hp_); have n1_ := Aside0.mk ((by rw [hw]; exact below_set (below_set (below_set (below_set (HB.out) GB17.out) GB17.out) GB17.out) GB17.out : Below w.heap.size w w19)); clear HO_6; clear HB; have HO_6 := n0_; have HB := n1_; clear n0_ n1_; clear hg hw hp_))
          go_ret2
          exact ⟨_, by first | rfl | (simp [errW_none, errW_some] <;> rfl) | (simp [*, errW_none, errW_some] <;> rfl), by (with_reducible repeat (first | apply Kd.R_alloc | apply Kd.R_drewN | apply Kd.R_drew)); exact HO_6.out, by repeat (first | (with_reducible first | exact HB.out | apply below_alloc | apply pw_below_drewN | apply below_drew1) | exact HB.out)⟩
         ·rw [if_neg c16] at H
          exact absurd H (by simp)
       ·replace c14 := Bool.eq_false_iff.mpr c14
        subst c14
        have H1 : (some (t103, 12)) = some (r1, r2) := by rw [if_neg (show ¬ (false = true) by decide)] at H; exact H
        clear H
        have H := H1
        clear H1
        simp only [Option.some.injEq, Prod.mk.injEq] at H
        obtain ⟨rfl, rfl⟩ := H
        have p108 : 0 ≤ (t106 : Int) := of_decide_eq_true q2_1
        have q108 : t106 < (l0.length : Int) := of_decide_eq_true q2_1
        obtain ⟨ad108, e108, hx108_0, hx108_1, hx108_2, hx108_3⟩ := at_T115 HR0.out t106 p108 q108
        (try rw [← Nbq13.out] at hx108_2)
        cases e108
        replace hx108_0 := (HB.out.cell (World.block_lt_of_cell? w _ hx108_0)).trans hx108_0
        replace hx108_1 := (HB.out.cell (World.block_lt_of_cell? w _ hx108_1)).trans hx108_1
        replace hx108_2 := (HB.out.cell (World.block_lt_of_cell? w _ hx108_2)).trans hx108_2
        replace hx108_3 := (HB.out.cell (World.block_lt_of_cell? w _ hx108_3)).trans hx108_3
        replace p108 := eq_true p108
        replace q108 := eq_true q108
        go_wp2
        go_ret2
        exact ⟨_, by first | rfl | (simp [errW_none, errW_some] <;> rfl) | (simp [*, errW_none, errW_some] <;> rfl), by (with_reducible repeat (first | apply Kd.R_alloc | apply Kd.R_drewN | apply Kd.R_drew)); exact HO_6.out, by repeat (first | (with_reducible first | exact HB.out | apply below_alloc | apply pw_below_drewN | apply below_drew1) | exact HB.out)⟩
      ·rw [if_neg c12] at H
       exact absurd H (by simp)
     ·rw [if_neg c11] at H
      exact absurd H (by simp)
    ·replace c10 := Bool.eq_false_iff.mpr c10
     subst c10
     have H1 : ((roster_Device_90.f t103 t106 (([(⟨a1, 1, false, 0⟩ : S115)] : List (S115)))).bind fun t115 => (some (t115, 0))) = some (r1, r2) := by rw [if_neg (show ¬ (false = true) by decide)] at H; exact H
     clear H
     have H := H1
     clear H1
     obtain ⟨y112, hy112⟩ : ∃ y_ : List (S115), y_ = (([(⟨a1, 1, false, 0⟩ : S115)] : List (S115))) := ⟨_, rfl⟩
     replace H : ((roster_Device_90.f t103 t106 y112).bind fun t115 => (some (t115, 0))) = some (r1, r2) := by first | (rw [hy112]; with_reducible exact H) | (have H2_ := (Option.bind_some _ _).symm.trans H; rw [hy112]; with_reducible exact H2_) | (have H2_ := (Option.bind_some _ _).symm.trans H; with_reducible exact H2_) | with_reducible exact H | (rw [hy112]; exact H) | exact H
     have Ny112 := Aside0.mk hy112
     clear hy112
     replace H := Option.bind_eq_some_iff.mp H
     obtain ⟨t115, A200, H⟩ := H
     replace H : (some (t115, 0)) = some (r1, r2) := H
     have A20 := Aside0.mk A200
     clear A200
     simp only [Option.some.injEq, Prod.mk.injEq] at H
     obtain ⟨rfl, rfl⟩ := H
     go_wp2_with (first | ((with_reducible refine gate_dst (N := 32) rfl ?_); refine Kd.R_lit k115 _ 115 ?hg (N := 32) ?hd (xs := ([(⟨a1, 1, false, 0⟩ : S115)] : List (S115))) (inner := [.int .i64 a1, .int .i64 1, .bool false, .int .i64 0]) (ok := fun _ => True) (okp := fun _ => True) ?hr ?hp (fun _ hk => hk) trivial (Below.refl _ _) (Nat.le_refl _) (by simp) ?_; (case hd => rfl); (case hg => rfl); (case hr => first | (go_simp; done) | (go_simp; rfl)); (case hp => exact (Reps.c4 (show Kd.M k115 _ _ _ (⟨a1, 1, false, 0⟩ : S115) [.int .i64 a1, .int .i64 1, .bool false, .int .i64 0] from (k115_mkM _ _ _ (⟨a1, 1, false, 0⟩ : S115) )) (Reps.none _ _))); intro v113 w21 ho22 hb hg_ hnew_; clear hg_ hnew_; (first | rw [← Ny112.out] at ho22 | (simp only [Int.reduceToNat] at ho22; rw [← Ny112.out] at ho22)); have n0_ := Aside0.mk (Kd.R_elder' q2_5 (Kd.R_base ho22) hb); have n1_ := Aside0.mk (Kd.R_lower (Kd.R_new' ho22 (Kd.R_lt q2_5)) (below_size q2_2)); have n2_ := Aside0.mk (below_step q2_2 hb); clear HO_6; clear HB; have HO_6 := n0_; have HO114 := n1_; have HB := n2_; clear n0_ n1_ n2_; clear hb ho22; obtain ⟨Ao23, co23, eo23⟩ := Kd.R_slice HO_6.out; subst eo23; obtain ⟨Ao24, co24, eo24⟩ := Kd.R_slice HO114.out; subst eo24) | ((with_reducible refine gate_callee (f := 90) rfl ?_); refine goesL_ (some 33) rfl rfl Try.func90 (by kernel_rfl) rfl #[.slice Ao23 t103.length co23, .int .i64 t106, .slice Ao24 y112.length co24] rfl q2_3 ?_; (with_reducible refine (roster_Device_90.calls (fun k_ => some k_ = (.slice Ao23 t103.length co23 : Value).ownBlock) (.slice Ao23 t103.length co23) t103 t106 (fun k_ => some k_ = (.slice Ao24 y112.length co24 : Value).ownBlock) (.slice Ao24 y112.length co24) y112 t115 w _ ?side1 ?side2 ?side3 ?side4 ?side5 A20.out).mono ?_); (case side1 => repeat (first | (with_reducible first | exact HB.out | apply below_alloc | apply pw_below_drewN | apply below_drew1) | exact HB.out)); (case side2 => exact Kd.R_tight rfl HO_6.out); (case side3 => exact fun k_ e_ => (HO_6.out.1 k_ e_.symm).2); (case side4 => exact Kd.R_tight rfl HO114.out); (case side5 => exact fun k_ e_ => (HO114.out.1 k_ e_.symm).2); rintro e w25 ⟨v116, rfl, ho0, hb, hkp⟩; refine ⟨_, rfl, ?_⟩; have n0_ := Aside0.mk (Kd.R_mono (ok' := fun k_ => True) ho0 (fun k_ hk_ => trivial)); have n1_ := Aside0.mk (hb); clear HB; clear HO114; clear HO_6; have HO117 := n0_; have HB := n1_; clear n0_ n1_; (try clear hb); (try clear hkp); (try clear ho0)))
     go_ret2
     exact ⟨_, by first | rfl | (simp [errW_none, errW_some] <;> rfl) | (simp [*, errW_none, errW_some] <;> rfl), by (with_reducible repeat (first | apply Kd.R_alloc | apply Kd.R_drewN | apply Kd.R_drew)); exact HO117.out, by repeat (first | (with_reducible first | exact HB.out | apply below_alloc | apply pw_below_drewN | apply below_drew1) | exact HB.out)⟩

end Go.Proofs.Ytdbfclfglpbpmaa.PF25F
