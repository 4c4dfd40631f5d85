/- By a program of this session (wip/tool/pp.py): plain Lean functions of the Go functions that this family of laws uses, the walks that the Go code comes to their answers, and the row of the law. No condition beside those that the row itself gives. -/
import Derived.Test.YtdbfclfglpbpmaaPF25Fx0
import Derived.Test.YtdbfclfglpbpmaaPF25Fx6
namespace Go.Proofs.Ytdbfclfglpbpmaa.PF25F
open Go.RowKit Go.Proofs.YtdbfclfglpbpmaaW.Hand Go.Proofs.YtdbfclfglpbpmaaW.PrintWords Go.Proofs.YtdbfclfglpbpmaaW.PrintLast Go.Proofs.YtdbfclfglpbpmaaW.PrintMore
attribute [local go_sem] max2_int min2_int max_two min_two max_three min_three max_four min_four   -- for this text's walks alone
set_option linter.unusedVariables false
set_option linter.unusedSimpArgs false

/-! ### batonref02_Rounds: function 120 -/
mutual
def batonref02_Rounds.l0 : Nat → List Int → List Int → List Int → Int → Option (List Int)
 | 0, _, _, _, _ => none
 | k + 1, x0, x1, x5, x6 => if x6 < 16 then (if 0 ≤ (wrap64 (4 * x6)) then (if (wrap64 (4 * x6)) ≤ (wrap64 ((wrap64 (4 * x6)) + 4)) then (if (wrap64 ((wrap64 (4 * x6)) + 4)) ≤ (x1.length : Int) then ((batonref01_Get.f k ((x1.take ((wrap64 ((wrap64 (4 * x6)) + 4)) : Int).toNat).drop ((wrap64 (4 * x6)) : Int).toNat)).bind fun t208 => (if x5.length < 35184372088832 then (batonref02_Rounds.l0 k x0 x1 (x5 ++ [(t208) % 4294967296]) (wrap64 (x6 + 1))) else (none))) else (none)) else (none)) else (none)) else (batonref02_Rounds.l1 k x0 x5 16)
def batonref02_Rounds.l1 : Nat → List Int → List Int → Int → Option (List Int)
 | 0, _, _, _ => none
 | k + 1, x0, x5, x7 => if x7 < 64 then (if 0 ≤ (wrap64 (x7 - 15)) then (if (wrap64 (x7 - 15)) < (x5.length : Int) then (if 0 ≤ (wrap64 (x7 - 2)) then (if (wrap64 (x7 - 2)) < (x5.length : Int) then ((batonref01_Rot.f k (rd x5 (wrap64 (x7 - 15))) 7).bind fun t214 => ((batonref01_Rot.f k (rd x5 (wrap64 (x7 - 15))) 18).bind fun t215 => ((batonref02_shr.f k (rd x5 (wrap64 (x7 - 15))) 3).bind fun t216 => ((batonref01_Rot.f k (rd x5 (wrap64 (x7 - 2))) 17).bind fun t217 => ((batonref01_Rot.f k (rd x5 (wrap64 (x7 - 2))) 19).bind fun t218 => ((batonref02_shr.f k (rd x5 (wrap64 (x7 - 2))) 10).bind fun t219 => (if 0 ≤ (wrap64 (x7 - 16)) then (if (wrap64 (x7 - 16)) < (x5.length : Int) then (if 0 ≤ (wrap64 (x7 - 7)) then (if (wrap64 (x7 - 7)) < (x5.length : Int) then (if x5.length < 35184372088832 then (batonref02_Rounds.l1 k x0 (x5 ++ [((((((rd x5 (wrap64 (x7 - 16))) + (Go.bits .xor .u32 (Go.bits .xor .u32 t214 t215) t216)) % 4294967296) + (rd x5 (wrap64 (x7 - 7)))) % 4294967296) + (Go.bits .xor .u32 (Go.bits .xor .u32 t217 t218) t219)) % 4294967296]) (wrap64 (x7 + 1))) else (none)) else (none)) else (none)) else (none)) else (none)))))))) else (none)) else (none)) else (none)) else (none)) else (if 0 < (x0.length : Int) then (if 1 < (x0.length : Int) then (if 2 < (x0.length : Int) then (if 3 < (x0.length : Int) then (if 4 < (x0.length : Int) then (if 5 < (x0.length : Int) then (if 6 < (x0.length : Int) then (if 7 < (x0.length : Int) then ((batonref02_K.f).bind fun t233 => (batonref02_Rounds.l2 k x0 x5 (rd x0 0) (rd x0 1) (rd x0 2) (rd x0 3) (rd x0 4) (rd x0 5) (rd x0 6) (rd x0 7) t233 0)) else (none)) else (none)) else (none)) else (none)) else (none)) else (none)) else (none)) else (none))
def batonref02_Rounds.l2 : Nat → List Int → List Int → Int → Int → Int → Int → Int → Int → Int → Int → List Int → Int → Option (List Int)
 | 0, _, _, _, _, _, _, _, _, _, _, _, _ => none
 | k + 1, x0, x5, x12, x13, x14, x15, x16, x17, x18, x19, x20, x21 => if x21 < 64 then ((batonref02_rots.f k x16 6 11 25).bind fun t236 => (if 0 ≤ x21 then (if x21 < (x20.length : Int) then (if x21 < (x5.length : Int) then ((batonref02_rots.f k x12 2 13 22).bind fun t239 => (batonref02_Rounds.l2 k x0 x5 ((((((((((x19 + t236) % 4294967296) + (Go.bits .xor .u32 (Go.bits .and .u32 x16 x17) (Go.bits .and .u32 ((4294967295 - x16) % 4294967296) x18))) % 4294967296) + (rd x20 x21)) % 4294967296) + (rd x5 x21)) % 4294967296) + ((t239 + (Go.bits .xor .u32 (Go.bits .xor .u32 (Go.bits .and .u32 x12 x13) (Go.bits .and .u32 x12 x14)) (Go.bits .and .u32 x13 x14))) % 4294967296)) % 4294967296) x12 x13 x14 ((x15 + ((((((((x19 + t236) % 4294967296) + (Go.bits .xor .u32 (Go.bits .and .u32 x16 x17) (Go.bits .and .u32 ((4294967295 - x16) % 4294967296) x18))) % 4294967296) + (rd x20 x21)) % 4294967296) + (rd x5 x21)) % 4294967296)) % 4294967296) x16 x17 x18 x20 (wrap64 (x21 + 1)))) else (none)) else (none)) else (none))) else (if 0 < (x0.length : Int) then (if 1 < (x0.length : Int) then (if 2 < (x0.length : Int) then (if 3 < (x0.length : Int) then (if 4 < (x0.length : Int) then (if 5 < (x0.length : Int) then (if 6 < (x0.length : Int) then (if 7 < (x0.length : Int) then (some (([((rd x0 0) + x12) % 4294967296, ((rd x0 1) + x13) % 4294967296, ((rd x0 2) + x14) % 4294967296, ((rd x0 3) + x15) % 4294967296, ((rd x0 4) + x16) % 4294967296, ((rd x0 5) + x17) % 4294967296, ((rd x0 6) + x18) % 4294967296, ((rd x0 7) + x19) % 4294967296] : List Int))) else (none)) else (none)) else (none)) else (none)) else (none)) else (none)) else (none)) else (none))
end
def batonref02_Rounds.f (k : Nat) (l0 : List Int) (l1 : List Int) : Option (List Int) := batonref02_Rounds.l0 k l0 l1 ([] : List Int) 0
theorem batonref02_Rounds.mono_l : ∀ k, (∀ y0 y1 y2 y3, LeO (batonref02_Rounds.l0 k y0 y1 y2 y3) (batonref02_Rounds.l0 (k + 1) y0 y1 y2 y3)) ∧ (∀ y0 y1 y2, LeO (batonref02_Rounds.l1 k y0 y1 y2) (batonref02_Rounds.l1 (k + 1) y0 y1 y2)) ∧ (∀ y0 y1 y2 y3 y4 y5 y6 y7 y8 y9 y10 y11, LeO (batonref02_Rounds.l2 k y0 y1 y2 y3 y4 y5 y6 y7 y8 y9 y10 y11) (batonref02_Rounds.l2 (k + 1) y0 y1 y2 y3 y4 y5 y6 y7 y8 y9 y10 y11))
 | 0 => ⟨fun _ _ _ _ r h => by simp [batonref02_Rounds.l0] at h, fun _ _ _ r h => by simp [batonref02_Rounds.l1] at h, fun _ _ _ _ _ _ _ _ _ _ _ _ r h => by simp [batonref02_Rounds.l2] at h⟩
 | k + 1 => by
  obtain ⟨ih0, ih1, ih2⟩ := batonref02_Rounds.mono_l k
  refine ⟨?_, ?_, ?_⟩
  ·intro y0 y1 y2 y3
   unfold batonref02_Rounds.l0
   repeat' first
   | (with_reducible exact ih0 _ _ _ _)
   | (with_reducible exact ih1 _ _ _)
   | (with_reducible exact ih2 _ _ _ _ _ _ _ _ _ _ _ _)
   | (with_reducible exact batonref01_Get.mono _ _)
   | (with_reducible exact batonref01_Rot.mono _ _ _)
   | (with_reducible exact batonref02_rots.mono _ _ _ _ _)
   | (with_reducible exact batonref02_shr.mono _ _ _)
   | (with_reducible exact LeO.refl _)
   | (with_reducible exact LeO.none _)
   | (with_reducible refine LeO.ite ?_ ?_)
   | (with_reducible refine LeO.bind ?_ (fun _ => ?_))
   | exact ih0 _ _ _ _
   | exact ih1 _ _ _
   | exact ih2 _ _ _ _ _ _ _ _ _ _ _ _
   | exact batonref01_Get.mono _ _
   | exact batonref01_Rot.mono _ _ _
   | exact batonref02_rots.mono _ _ _ _ _
   | exact batonref02_shr.mono _ _ _
   | exact LeO.none _
   | refine LeO.ite ?_ ?_
   | refine LeO.bind ?_ (fun _ => ?_)
  ·intro y0 y1 y2
   unfold batonref02_Rounds.l1
   repeat' first
   | (with_reducible exact ih0 _ _ _ _)
   | (with_reducible exact ih1 _ _ _)
   | (with_reducible exact ih2 _ _ _ _ _ _ _ _ _ _ _ _)
   | (with_reducible exact batonref01_Get.mono _ _)
   | (with_reducible exact batonref01_Rot.mono _ _ _)
   | (with_reducible exact batonref02_rots.mono _ _ _ _ _)
   | (with_reducible exact batonref02_shr.mono _ _ _)
   | (with_reducible exact LeO.refl _)
   | (with_reducible exact LeO.none _)
   | (with_reducible refine LeO.ite ?_ ?_)
   | (with_reducible refine LeO.bind ?_ (fun _ => ?_))
   | exact ih0 _ _ _ _
   | exact ih1 _ _ _
   | exact ih2 _ _ _ _ _ _ _ _ _ _ _ _
   | exact batonref01_Get.mono _ _
   | exact batonref01_Rot.mono _ _ _
   | exact batonref02_rots.mono _ _ _ _ _
   | exact batonref02_shr.mono _ _ _
   | exact LeO.none _
   | refine LeO.ite ?_ ?_
   | refine LeO.bind ?_ (fun _ => ?_)
  ·intro y0 y1 y2 y3 y4 y5 y6 y7 y8 y9 y10 y11
   unfold batonref02_Rounds.l2
   repeat' first
   | (with_reducible exact ih0 _ _ _ _)
   | (with_reducible exact ih1 _ _ _)
   | (with_reducible exact ih2 _ _ _ _ _ _ _ _ _ _ _ _)
   | (with_reducible exact batonref01_Get.mono _ _)
   | (with_reducible exact batonref01_Rot.mono _ _ _)
   | (with_reducible exact batonref02_rots.mono _ _ _ _ _)
   | (with_reducible exact batonref02_shr.mono _ _ _)
   | (with_reducible exact LeO.refl _)
   | (with_reducible exact LeO.none _)
   | (with_reducible refine LeO.ite ?_ ?_)
   | (with_reducible refine LeO.bind ?_ (fun _ => ?_))
   | exact ih0 _ _ _ _
   | exact ih1 _ _ _
   | exact ih2 _ _ _ _ _ _ _ _ _ _ _ _
   | exact batonref01_Get.mono _ _
   | exact batonref01_Rot.mono _ _ _
   | exact batonref02_rots.mono _ _ _ _ _
   | exact batonref02_shr.mono _ _ _
   | exact LeO.none _
   | refine LeO.ite ?_ ?_
   | refine LeO.bind ?_ (fun _ => ?_)
theorem batonref02_Rounds.mono : ∀ a0 a1 k, LeO (batonref02_Rounds.f k a0 a1) (batonref02_Rounds.f (k + 1) a0 a1) := by
 intro a0 a1 k
 obtain ⟨ih0, ih1, ih2⟩ := batonref02_Rounds.mono_l k
 unfold batonref02_Rounds.f
 repeat' first
   | (with_reducible exact ih0 _ _ _ _)
   | (with_reducible exact ih1 _ _ _)
   | (with_reducible exact ih2 _ _ _ _ _ _ _ _ _ _ _ _)
   | (with_reducible exact batonref01_Get.mono _ _)
   | (with_reducible exact batonref01_Rot.mono _ _ _)
   | (with_reducible exact batonref02_rots.mono _ _ _ _ _)
   | (with_reducible exact batonref02_shr.mono _ _ _)
   | (with_reducible exact LeO.refl _)
   | (with_reducible exact LeO.none _)
   | (with_reducible refine LeO.ite ?_ ?_)
   | (with_reducible refine LeO.bind ?_ (fun _ => ?_))
   | exact ih0 _ _ _ _
   | exact ih1 _ _ _
   | exact ih2 _ _ _ _ _ _ _ _ _ _ _ _
   | exact batonref01_Get.mono _ _
   | exact batonref01_Rot.mono _ _ _
   | exact batonref02_rots.mono _ _ _ _ _
   | exact batonref02_shr.mono _ _ _
   | exact LeO.none _
   | refine LeO.ite ?_ ?_
   | refine LeO.bind ?_ (fun _ => ?_)
def batonref02_Rounds.T9 : Bool × List (List Nat × List Nat) := (true, [([], []), ([], []), ([1], [1]), ([0, 2], [0, 2]), ([3], [3]), ([], []), ([], []), ([6], [6]), ([5, 7], [5, 7]), ([8], [8]), ([4, 0, 1, 2, 3, 4], [4]), ([9, 10, 0, 1, 2, 3, 4, 5, 6, 7, 8, 9, 10], [9])])
def batonref02_Rounds.B9 : List Nat := [0, 0, 2, 7, 15, 0, 0, 64, 224, 480, 31, 2047]
theorem batonref02_Rounds.tab9 : rtab .any (opsOf Try.f120 9) = batonref02_Rounds.T9 := by kernel_rfl
theorem batonref02_Rounds.bits9 : waitsOk batonref02_Rounds.T9.2 batonref02_Rounds.B9 = true := by kernel_rfl
def batonref02_Rounds.T12 : Bool × List (List Nat × List Nat) := (true, [([], []), ([], []), ([], []), ([2], [2]), ([1, 3], [1, 3]), ([4], [4]), ([], []), ([5, 6], [5, 6]), ([], []), ([], []), ([9], [9]), ([8, 10], [8, 10]), ([11], [11]), ([7, 12], [7, 12]), ([], []), ([13, 14], [13, 14]), ([15], [15]), ([0, 16], [0, 16]), ([17, 17, 0, 1, 2, 3, 4, 5, 6, 7, 8, 9, 10, 11, 12, 13, 14, 15, 16, 17], [0, 1, 8, 17])])
def batonref02_Rounds.B12 : List Nat := [0, 0, 0, 4, 14, 30, 0, 126, 0, 0, 512, 1792, 3840, 8190, 0, 32766, 65534, 131071, 262143]
theorem batonref02_Rounds.tab12 : rtab .any (opsOf Try.f120 12) = batonref02_Rounds.T12 := by kernel_rfl
theorem batonref02_Rounds.bits12 : waitsOk batonref02_Rounds.T12.2 batonref02_Rounds.B12 = true := by kernel_rfl
def batonref02_Rounds.T13 : Bool × List (List Nat × List Nat) := (true, [([], []), ([0], [0]), ([1], [1]), ([], []), ([3], [3]), ([4], [4]), ([], []), ([6], [6]), ([7], [7]), ([], []), ([9], [9]), ([10], [10]), ([], []), ([12], [12]), ([13], [13]), ([], []), ([15], [15]), ([16], [16]), ([], []), ([18], [18]), ([19], [19]), ([], []), ([21], [21]), ([22], [22]), ([2, 0, 1, 2], [2]), ([5, 24, 0, 1, 2, 3, 4, 5, 24], [5]), ([8, 25, 0, 1, 2, 3, 4, 5, 6, 7, 8, 24, 25], [8]), ([11, 26, 0, 1, 2, 3, 4, 5, 6, 7, 8, 9, 10, 11, 24, 25, 26], [11]), ([14, 27, 0, 1, 2, 3, 4, 5, 6, 7, 8, 9, 10, 11, 12, 13, 14, 24, 25, 26, 27], [14]), ([17, 28, 0, 1, 2, 3, 4, 5, 6, 7, 8, 9, 10, 11, 12, 13, 14, 15, 16, 17, 24, 25, 26, 27, 28], [17]), ([20, 29, 0, 1, 2, 3, 4, 5, 6, 7, 8, 9, 10, 11, 12, 13, 14, 15, 16, 17, 18, 19, 20, 24, 25, 26, 27, 28, 29], [20]), ([23, 30, 0, 1, 2, 3, 4, 5, 6, 7, 8, 9, 10, 11, 12, 13, 14, 15, 16, 17, 18, 19, 20, 21, 22, 23, 24, 25, 26, 27, 28, 29, 30], [23])])
def batonref02_Rounds.B13 : List Nat := [0, 1, 3, 0, 8, 24, 0, 64, 192, 0, 512, 1536, 0, 4096, 12288, 0, 32768, 98304, 0, 262144, 786432, 0, 2097152, 6291456, 7, 16777279, 50332159, 117444607, 251691007, 520355839, 1059061759, 2147483647]
theorem batonref02_Rounds.tab13 : rtab .any (opsOf Try.f120 13) = batonref02_Rounds.T13 := by kernel_rfl
theorem batonref02_Rounds.bits13 : waitsOk batonref02_Rounds.T13.2 batonref02_Rounds.B13 = true := by kernel_rfl
def batonref02_Rounds.T18 : Bool × List (List Nat × List Nat) := (true, [([], []), ([], []), ([1], [1]), ([0, 2], [0, 2]), ([], []), ([], []), ([4, 5], [4, 5]), ([], []), ([7], [7]), ([], []), ([8, 9], [8, 9]), ([6, 10], [6, 10]), ([3, 11], [3, 11]), ([], []), ([], []), ([13, 14], [13, 14]), ([15], [15]), ([12, 16], [12, 16]), ([], []), ([], []), ([18, 19], [18, 19]), ([20], [20]), ([17, 21], [17, 21]), ([22, 2, 0, 1, 2, 3, 4, 5, 6, 7, 8, 9, 10, 11, 12, 13, 14, 15, 16, 17, 18, 19, 20, 21, 22], [22])])
def batonref02_Rounds.B18 : List Nat := [0, 0, 2, 7, 0, 0, 48, 0, 128, 0, 896, 2032, 4095, 0, 0, 24576, 57344, 131071, 0, 0, 786432, 1835008, 4194303, 8388607]
theorem batonref02_Rounds.tab18 : rtab .any (opsOf Try.f120 18) = batonref02_Rounds.T18 := by kernel_rfl
theorem batonref02_Rounds.bits18 : waitsOk batonref02_Rounds.T18.2 batonref02_Rounds.B18 = true := by kernel_rfl
def batonref02_Rounds.T21 : Bool × List (List Nat × List Nat) := (true, [([], []), ([0], [0]), ([1], [1]), ([], []), ([2, 3], [2, 3]), ([], []), ([5], [5]), ([6], [6]), ([], []), ([7, 8], [7, 8]), ([], []), ([10], [10]), ([11], [11]), ([], []), ([12, 13], [12, 13]), ([], []), ([15], [15]), ([16], [16]), ([], []), ([17, 18], [17, 18]), ([], []), ([20], [20]), ([21], [21]), ([], []), ([22, 23], [22, 23]), ([], []), ([25], [25]), ([26], [26]), ([], []), ([27, 28], [27, 28]), ([], []), ([30], [30]), ([31], [31]), ([], []), ([32, 33], [32, 33]), ([], []), ([35], [35]), ([36], [36]), ([], []), ([37, 38], [37, 38]), ([4, 9, 14, 19, 24, 29, 34, 39], [4, 9, 14, 19, 24, 29, 34, 39]), ([40, 0, 1, 2, 3, 4, 5, 6, 7, 8, 9, 10, 11, 12, 13, 14, 15, 16, 17, 18, 19, 20, 21, 22, 23, 24, 25, 26, 27, 28, 29, 30, 31, 32, 33, 34, 35, 36, 37, 38, 39, 40], [40])])
def batonref02_Rounds.B21 : List Nat := [0, 1, 3, 0, 15, 0, 32, 96, 0, 480, 0, 1024, 3072, 0, 15360, 0, 32768, 98304, 0, 491520, 0, 1048576, 3145728, 0, 15728640, 0, 33554432, 100663296, 0, 503316480, 0, 1073741824, 3221225472, 0, 16106127360, 0, 34359738368, 103079215104, 0, 515396075520, 1099511627775, 2199023255551]
theorem batonref02_Rounds.tab21 : rtab .any (opsOf Try.f120 21) = batonref02_Rounds.T21 := by kernel_rfl
theorem batonref02_Rounds.bits21 : waitsOk batonref02_Rounds.T21.2 batonref02_Rounds.B21 = true := by kernel_rfl
theorem q7_1 {p : Prop} (h : p := by kernel_rfl) : p := h
theorem q7_2 {p : Prop} (h : p := by first | (with_reducible assumption) | assumption) : p := h
theorem q7_3 {p : Prop} (h : p := by repeat (first | (with_reducible first | exact HB.out | apply below_alloc | apply pw_below_drewN | apply below_drew1) | exact HB.out)) : p := h
theorem q7_4 {p : Prop} (h : p := by first | rfl | (simp; done) | (simp [*]; done)) : p := h
theorem q7_5 {p : Prop} (h : p := by (with_reducible repeat (first | apply Kd.R_alloc | apply Kd.R_drewN | apply Kd.R_drew)); exact HO_5.out) : p := h
theorem q7_6 {p : Prop} (h : p := by (try simp only [List.map_toArray, List.map_cons, List.map_nil]); first | done | (simp only [hji17]; rfl) | rfl | (simp only [List.length_drop, List.length_take]; rfl)) : p := h
theorem q7_7 {p : Prop} (h : p := by (try simp only [List.map_toArray, List.map_cons, List.map_nil]); first | done | (simp only [hji14]; rfl) | rfl | (simp only [List.length_drop, List.length_take]; rfl)) : p := h
theorem q7_8 {p : Prop} (h : p := by omega) : p := h
theorem q7_9 {p : Prop} (h : p := by (try simp only [List.map_toArray, List.map_cons, List.map_nil]); first | done | rfl | (simp only [List.length_drop, List.length_take]; rfl)) : p := h
theorem q7_10 {p : Prop} (h : p := by simp) : p := h
set_option maxHeartbeats 8000000 in
set_option maxRecDepth 100000 in
theorem batonref02_Rounds.calls (k : Nat) (A0 : Option Addr) (c0 : Nat) (l0 : List Int) (A1 : Option Addr) (c1 : Nat) (l1 : List Int) (r : List Int) (w : World) (hr0 : Kd.C (Kd.int .u32) w A0 l0.length l0) (hc0 : l0.length ≤ c0) (hr1 : Kd.C (Kd.int .u8) w A1 l1.length l1) (hc1 : l1.length ≤ c1) (h : batonref02_Rounds.f k l0 l1 = some r) :
  Calls Try.prog 120 #[.slice A0 l0.length c0, .slice A1 l1.length c1] w fun e w' => ∃ v0_ : Value, e = .returned (v0_) ∧ Kd.R (Kd.int .u32) 199 w' w.heap.size (fun _ => True) v0_ r ∧ Below w.heap.size w w' := by
 have HR0 := Aside0.mk hr0
 have HC0 := Aside0.mk hc0
 clear hr0 hc0
 have HR1 := Aside0.mk hr1
 have HC1 := Aside0.mk hc1
 clear hr1 hc1
 have HB := Aside0.mk (Below.refl w.heap.size w)
 have H : (batonref02_Rounds.l0 k l0 l1 ([] : List Int) 0) = some r := h
 clear h
 have H' := Aside0.mk H
 clear H
 go_enter Try.func120, Try.ntmps120
 go_wp2
 go_loopg [5, 6] k (fun kq v5 v6 w' => ∃ (x5_1 : List Int) (x6_1 : Int), v6 = .int .i64 x6_1 ∧ Aside0 (batonref02_Rounds.l0 kq l0 l1 x5_1 x6_1 = some r) ∧ Aside0 (kq ≤ k) ∧ Aside0 (Kd.R (Kd.int .u32) 199 w' w.heap.size (fun _ => True) v5 x5_1) ∧ Aside0 (Below w.heap.size w w'))
 case atStart => exact ⟨(([] : List Int)), (0), q7_4, H', ⟨Nat.le_refl _⟩, ⟨by first | exact Kd.R_nil _ _ _ _ _ | exact Kd.N_nil _ _ _ _ _ | exact Kd.V_nil _ _ _ _ _ | exact Kd.Q_nil _ _ _ _ _ | exact Kd.S_nil _ _ _ _ _⟩, ⟨by repeat (first | (with_reducible first | exact HB.out | apply below_alloc | apply pw_below_drewN | apply below_drew1) | exact HB.out)⟩⟩
 case round =>
  clear H'
  try clear c1
  try clear p2
  obtain ⟨x5_1, x6_1, rfl, HA, HK1, HO_5, HB⟩ := hrel
  cases gk with
  | zero => exact absurd HA.out (by simp [batonref02_Rounds.l0])
  | succ k1 =>
   have H := HA.out
   clear HA
   simp only [batonref02_Rounds.l0] at H
   by_cases c3 : x6_1 < 16
   ·rw [if_pos c3] at H
    have c3b0 : decide (x6_1 < 16) = true := decide_eq_true c3
    clear c3
    obtain ⟨ji4, hji4⟩ : ∃ j_ : Int, (wrap64 (4 * x6_1)) = j_ := ⟨_, rfl⟩
    replace H : (if 0 ≤ (ji4) then (if (ji4) ≤ (wrap64 ((ji4) + 4)) then (if (wrap64 ((ji4) + 4)) ≤ (l1.length : Int) then ((batonref01_Get.f k1 ((l1.take ((wrap64 ((ji4) + 4)) : Int).toNat).drop ((ji4) : Int).toNat)).bind fun t208 => (if x5_1.length < 35184372088832 then (batonref02_Rounds.l0 k1 l0 l1 (x5_1 ++ [(t208) % 4294967296]) (wrap64 (x6_1 + 1))) else (none))) else (none)) else (none)) else (none)) = some r := by first | (rw [hji4] at H; exact H) | (simp only [hji4] at H ⊢; exact H)
    have hji4w : (IntKind.i64.wrap (4 * x6_1)) = ji4 := (i64_w _).trans hji4
    by_cases c5 : 0 ≤ (ji4)
    ·rw [if_pos c5] at H
     have c5b0 := eq_true c5
     have c5b1 : decide (0 ≤ (ji4)) = true := decide_eq_true c5
     clear c5
     obtain ⟨ji6, hji6⟩ : ∃ j_ : Int, (wrap64 ((ji4) + 4)) = j_ := ⟨_, rfl⟩
     replace H : (if (ji4) ≤ (ji6) then (if (ji6) ≤ (l1.length : Int) then ((batonref01_Get.f k1 ((l1.take ((ji6) : Int).toNat).drop ((ji4) : Int).toNat)).bind fun t208 => (if x5_1.length < 35184372088832 then (batonref02_Rounds.l0 k1 l0 l1 (x5_1 ++ [(t208) % 4294967296]) (wrap64 (x6_1 + 1))) else (none))) else (none)) else (none)) = some r := by first | (rw [hji6] at H; exact H) | (simp only [hji6] at H ⊢; exact H)
     have hji6w : (IntKind.i64.wrap ((ji4) + 4)) = ji6 := (i64_w _).trans hji6
     by_cases c7 : (ji4) ≤ (ji6)
     ·rw [if_pos c7] at H
      have c7b0 := eq_true c7
      have c7b1 : decide ((ji4) ≤ (ji6)) = true := decide_eq_true c7
      clear c7
      by_cases c8 : (ji6) ≤ (l1.length : Int)
      ·rw [if_pos c8] at H
       have c8b0 := eq_true c8
       have c8b1 : decide ((ji6) ≤ (l1.length : Int)) = true := decide_eq_true c8
       clear c8
       replace H := Option.bind_eq_some_iff.mp H
       obtain ⟨t208, A90, H⟩ := H
       replace H : (if x5_1.length < 35184372088832 then (batonref02_Rounds.l0 k1 l0 l1 (x5_1 ++ [(t208) % 4294967296]) (wrap64 (x6_1 + 1))) else (none)) = some r := H
       have A9 := Aside0.mk A90
       clear A90
       by_cases c10 : x5_1.length < 35184372088832
       ·rw [if_pos c10] at H
        have LMc10 := Aside0.mk c10
        clear c10
        obtain ⟨y209, hy209⟩ : ∃ y_ : List Int, y_ = (x5_1 ++ [(t208) % 4294967296]) := ⟨_, rfl⟩
        replace H : (batonref02_Rounds.l0 k1 l0 l1 y209 (wrap64 (x6_1 + 1))) = some r := by first | (rw [hy209]; with_reducible exact H) | (have H2_ := (Option.bind_some _ _).symm.trans H; rw [hy209]; with_reducible exact H2_) | (have H2_ := (Option.bind_some _ _).symm.trans H; with_reducible exact H2_) | with_reducible exact H | (rw [hy209]; exact H) | exact H
        have Ny209 := Aside0.mk hy209
        clear hy209
        have H' := Aside0.mk H
        clear H
        obtain ⟨i011, hi011, _, hsz11, _⟩ := info_parts info5
        obtain ⟨A11, hcut11, hA11, hC11⟩ := print_mid_of (P := Try.prog) (Value.int .u8) 0 22 5 .i64 .i64 Try.underlying22 hi011 hsz11 A1 c1 l1 (ji4) (ji6) (of_decide_eq_true q7_2) (by first | omega | exact of_decide_eq_true q7_2) (of_decide_eq_true q7_2) HC1.out
        have HR207 := Aside0.mk (Kd.C_of_reads (h1 := fun _ => rfl) (hA11 _ (Kd.reads_of_C HR1.out)))
        have HC207 := Aside0.mk hC11
        clear hA11 hC11 hi011 hsz11
        go_wp2_with (first | ((with_reducible refine gate_callee (f := 129) rfl ?_); refine goesL_ (some 36) rfl rfl Try.func129 q7_1 rfl #[.slice A11 ((l1.take ((ji6) : Int).toNat).drop ((ji4) : Int).toNat).length (c1 - (ji4).toNat)] rfl (by (try simp only [List.map_toArray, List.map_cons, List.map_nil]); first | done | (rw [show ((l1.take ((ji6) : Int).toNat).drop ((ji4) : Int).toNat).length = ((ji6).toNat - (ji4).toNat) from (by rw [List.length_drop, List.length_take]; have h_ : ((ji6) : Int) ≤ (l1.length : Int) := of_decide_eq_true q7_2; omega)] <;> rfl) | (simp only [hji4, hji6]; rfl) | rfl | (simp only [List.length_drop, List.length_take]; rfl)) ?_; (with_reducible refine (batonref01_Get.calls k1 _ _ ((l1.take ((ji6) : Int).toNat).drop ((ji4) : Int).toNat) t208 _ ?side1 ?side2 A9.out).mono ?_); (case side1 => repeat (first | exact (Kd.C_below HR207.out HB.out) | (with_reducible refine Kd.C_alloc ?_ _) | (with_reducible refine Kd.C_drewN ?_ _) | (with_reducible refine Kd.C_drew ?_))); (case side2 => exact HC207.out); rintro e w' ⟨rfl, ⟨nd, rfl⟩⟩; refine ⟨_, rfl, ?_⟩) | ((with_reducible refine gate_builtin (b := .append) (xs := #[.tmp 28, .tmp 38]) rfl ?_); at_builtin; refine Kd.R_append (Kd.int .u32) (w0 := w) w.heap.size rfl (.tmp 28) (.tmp 38) 196 199 (.int .u32 0) 4 rfl Try.underlying196 info199 rfl (by decide) q7_8 u5 x5_1 ((t208) % 4294967296) [.int .u32 ((t208) % 4294967296)] (fun _ => True) (fun _ => False) rfl rfl ?aP (fun _ hk => hk.elim) ?aF ?aO ?aB ?aS ?aL ?_; (case aP => exact rfl); (case aB => exact q7_3); (case aF => exact (fun _ _ => trivial)); (case aO => exact q7_5); (case aS => exact (below_size q7_3)); (case aL => have := LMc10.out; omega); intro v210 w12 ho hb hg hat; rw [← Ny209.out] at ho; have n0_ := Aside0.mk (hb); have n1_ := Aside0.mk (ho); clear HB HO_5; have HB := n0_; have HO211 := n1_; clear n0_ n1_; clear ho hb hg hat))
        go_roundg k1
        case measure => have := HK1.out; omega
        case rel => exact ⟨(y209), (wrap64 (x6_1 + 1)), q7_4, H', ⟨by have := HK1.out; omega⟩, ⟨by (with_reducible repeat (first | apply Kd.R_alloc | apply Kd.R_drewN | apply Kd.R_drew)); exact HO211.out⟩, ⟨by repeat (first | (with_reducible first | exact HB.out | apply below_alloc | apply pw_below_drewN | apply below_drew1) | exact HB.out)⟩⟩
       ·rw [if_neg c10] at H
        exact absurd H q7_10
      ·rw [if_neg c8] at H
       exact absurd H q7_10
     ·rw [if_neg c7] at H
      exact absurd H q7_10
    ·rw [if_neg c5] at H
     exact absurd H q7_10
   ·rw [if_neg c3] at H
    have c3b0 : decide (x6_1 < 16) = false := decide_eq_false c3
    clear c3
    have H' := Aside0.mk H
    clear H
    go_wp2
    go_loopg [5, 7] k1 (fun kq v5 v7 w' => ∃ (x5_2 : List Int) (x7_2 : Int), v7 = .int .i64 x7_2 ∧ Aside0 (batonref02_Rounds.l1 kq l0 x5_2 x7_2 = some r) ∧ Aside0 (kq ≤ k1) ∧ Aside0 (Kd.R (Kd.int .u32) 199 w' w.heap.size (fun _ => True) v5 x5_2) ∧ Aside0 (Below w.heap.size w w'))
    case atStart => exact ⟨(x5_1), (16), q7_4, H', ⟨Nat.le_refl _⟩, ⟨by (with_reducible repeat (first | apply Kd.R_alloc | apply Kd.R_drewN | apply Kd.R_drew)); exact HO_5.out⟩, ⟨by repeat (first | (with_reducible first | exact HB.out | apply below_alloc | apply pw_below_drewN | apply below_drew1) | exact HB.out)⟩⟩
    case round =>
     clear H'
     try clear c1
     try clear p2
     try clear c3
     try clear c3b0
     try clear c5
     try clear c5b0
     try clear c5b1
     try clear p6
     try clear c7
     try clear c7b0
     try clear c7b1
     try clear c8
     try clear c8b0
     try clear c8b1
     try clear c10
     try clear c12
     try clear p2
     obtain ⟨x5_2, x7_2, rfl, HA, HK2, HO_5, HB⟩ := hrel
     cases gk with
     | zero => exact absurd HA.out (by simp [batonref02_Rounds.l1])
     | succ k2 =>
      have H := HA.out
      clear HA
      simp only [batonref02_Rounds.l1] at H
      by_cases c13 : x7_2 < 64
      ·rw [if_pos c13] at H
       have c13b0 : decide (x7_2 < 64) = true := decide_eq_true c13
       clear c13
       obtain ⟨ji14, hji14⟩ : ∃ j_ : Int, (wrap64 (x7_2 - 15)) = j_ := ⟨_, rfl⟩
       replace H : (if 0 ≤ (ji14) then (if (ji14) < (x5_2.length : Int) then (if 0 ≤ (wrap64 (x7_2 - 2)) then (if (wrap64 (x7_2 - 2)) < (x5_2.length : Int) then ((batonref01_Rot.f k2 (rd x5_2 (ji14)) 7).bind fun t214 => ((batonref01_Rot.f k2 (rd x5_2 (ji14)) 18).bind fun t215 => ((batonref02_shr.f k2 (rd x5_2 (ji14)) 3).bind fun t216 => ((batonref01_Rot.f k2 (rd x5_2 (wrap64 (x7_2 - 2))) 17).bind fun t217 => ((batonref01_Rot.f k2 (rd x5_2 (wrap64 (x7_2 - 2))) 19).bind fun t218 => ((batonref02_shr.f k2 (rd x5_2 (wrap64 (x7_2 - 2))) 10).bind fun t219 => (if 0 ≤ (wrap64 (x7_2 - 16)) then (if (wrap64 (x7_2 - 16)) < (x5_2.length : Int) then (if 0 ≤ (wrap64 (x7_2 - 7)) then (if (wrap64 (x7_2 - 7)) < (x5_2.length : Int) then (if x5_2.length < 35184372088832 then (batonref02_Rounds.l1 k2 l0 (x5_2 ++ [((((((rd x5_2 (wrap64 (x7_2 - 16))) + (Go.bits .xor .u32 (Go.bits .xor .u32 t214 t215) t216)) % 4294967296) + (rd x5_2 (wrap64 (x7_2 - 7)))) % 4294967296) + (Go.bits .xor .u32 (Go.bits .xor .u32 t217 t218) t219)) % 4294967296]) (wrap64 (x7_2 + 1))) else (none)) else (none)) else (none)) else (none)) else (none)))))))) else (none)) else (none)) else (none)) else (none)) = some r := by first | (rw [hji14] at H; exact H) | (simp only [hji14] at H ⊢; exact H)
       have hji14w : (IntKind.i64.wrap (x7_2 - 15)) = ji14 := (i64_w _).trans hji14
       by_cases c15 : 0 ≤ (ji14)
       ·rw [if_pos c15] at H
        have c15b0 : decide (0 ≤ (ji14)) = true := decide_eq_true c15
        clear c15
        by_cases c16 : (ji14) < (x5_2.length : Int)
        ·rw [if_pos c16] at H
         have c16b0 : decide ((ji14) < (x5_2.length : Int)) = true := decide_eq_true c16
         clear c16
         obtain ⟨ji17, hji17⟩ : ∃ j_ : Int, (wrap64 (x7_2 - 2)) = j_ := ⟨_, rfl⟩
         replace H : (if 0 ≤ (ji17) then (if (ji17) < (x5_2.length : Int) then ((batonref01_Rot.f k2 (rd x5_2 (ji14)) 7).bind fun t214 => ((batonref01_Rot.f k2 (rd x5_2 (ji14)) 18).bind fun t215 => ((batonref02_shr.f k2 (rd x5_2 (ji14)) 3).bind fun t216 => ((batonref01_Rot.f k2 (rd x5_2 (ji17)) 17).bind fun t217 => ((batonref01_Rot.f k2 (rd x5_2 (ji17)) 19).bind fun t218 => ((batonref02_shr.f k2 (rd x5_2 (ji17)) 10).bind fun t219 => (if 0 ≤ (wrap64 (x7_2 - 16)) then (if (wrap64 (x7_2 - 16)) < (x5_2.length : Int) then (if 0 ≤ (wrap64 (x7_2 - 7)) then (if (wrap64 (x7_2 - 7)) < (x5_2.length : Int) then (if x5_2.length < 35184372088832 then (batonref02_Rounds.l1 k2 l0 (x5_2 ++ [((((((rd x5_2 (wrap64 (x7_2 - 16))) + (Go.bits .xor .u32 (Go.bits .xor .u32 t214 t215) t216)) % 4294967296) + (rd x5_2 (wrap64 (x7_2 - 7)))) % 4294967296) + (Go.bits .xor .u32 (Go.bits .xor .u32 t217 t218) t219)) % 4294967296]) (wrap64 (x7_2 + 1))) else (none)) else (none)) else (none)) else (none)) else (none)))))))) else (none)) else (none)) = some r := by first | (rw [hji17] at H; exact H) | (simp only [hji17] at H ⊢; exact H)
         have hji17w : (IntKind.i64.wrap (x7_2 - 2)) = ji17 := (i64_w _).trans hji17
         by_cases c18 : 0 ≤ (ji17)
         ·rw [if_pos c18] at H
          have c18b0 : decide (0 ≤ (ji17)) = true := decide_eq_true c18
          clear c18
          by_cases c19 : (ji17) < (x5_2.length : Int)
          ·rw [if_pos c19] at H
           have c19b0 : decide ((ji17) < (x5_2.length : Int)) = true := decide_eq_true c19
           clear c19
           replace H := Option.bind_eq_some_iff.mp H
           obtain ⟨t214, A200, H⟩ := H
           replace H : ((batonref01_Rot.f k2 (rd x5_2 (ji14)) 18).bind fun t215 => ((batonref02_shr.f k2 (rd x5_2 (ji14)) 3).bind fun t216 => ((batonref01_Rot.f k2 (rd x5_2 (ji17)) 17).bind fun t217 => ((batonref01_Rot.f k2 (rd x5_2 (ji17)) 19).bind fun t218 => ((batonref02_shr.f k2 (rd x5_2 (ji17)) 10).bind fun t219 => (if 0 ≤ (wrap64 (x7_2 - 16)) then (if (wrap64 (x7_2 - 16)) < (x5_2.length : Int) then (if 0 ≤ (wrap64 (x7_2 - 7)) then (if (wrap64 (x7_2 - 7)) < (x5_2.length : Int) then (if x5_2.length < 35184372088832 then (batonref02_Rounds.l1 k2 l0 (x5_2 ++ [((((((rd x5_2 (wrap64 (x7_2 - 16))) + (Go.bits .xor .u32 (Go.bits .xor .u32 t214 t215) t216)) % 4294967296) + (rd x5_2 (wrap64 (x7_2 - 7)))) % 4294967296) + (Go.bits .xor .u32 (Go.bits .xor .u32 t217 t218) t219)) % 4294967296]) (wrap64 (x7_2 + 1))) else (none)) else (none)) else (none)) else (none)) else (none))))))) = some r := H
           have A20 := Aside0.mk A200
           clear A200
           replace H := Option.bind_eq_some_iff.mp H
           obtain ⟨t215, A210, H⟩ := H
           replace H : ((batonref02_shr.f k2 (rd x5_2 (ji14)) 3).bind fun t216 => ((batonref01_Rot.f k2 (rd x5_2 (ji17)) 17).bind fun t217 => ((batonref01_Rot.f k2 (rd x5_2 (ji17)) 19).bind fun t218 => ((batonref02_shr.f k2 (rd x5_2 (ji17)) 10).bind fun t219 => (if 0 ≤ (wrap64 (x7_2 - 16)) then (if (wrap64 (x7_2 - 16)) < (x5_2.length : Int) then (if 0 ≤ (wrap64 (x7_2 - 7)) then (if (wrap64 (x7_2 - 7)) < (x5_2.length : Int) then (if x5_2.length < 35184372088832 then (batonref02_Rounds.l1 k2 l0 (x5_2 ++ [((((((rd x5_2 (wrap64 (x7_2 - 16))) + (Go.bits .xor .u32 (Go.bits .xor .u32 t214 t215) t216)) % 4294967296) + (rd x5_2 (wrap64 (x7_2 - 7)))) % 4294967296) + (Go.bits .xor .u32 (Go.bits .xor .u32 t217 t218) t219)) % 4294967296]) (wrap64 (x7_2 + 1))) else (none)) else (none)) else (none)) else (none)) else (none)))))) = some r := H
           have A21 := Aside0.mk A210
           clear A210
           replace H := Option.bind_eq_some_iff.mp H
           obtain ⟨t216, A220, H⟩ := H
           replace H : ((batonref01_Rot.f k2 (rd x5_2 (ji17)) 17).bind fun t217 => ((batonref01_Rot.f k2 (rd x5_2 (ji17)) 19).bind fun t218 => ((batonref02_shr.f k2 (rd x5_2 (ji17)) 10).bind fun t219 => (if 0 ≤ (wrap64 (x7_2 - 16)) then (if (wrap64 (x7_2 - 16)) < (x5_2.length : Int) then (if 0 ≤ (wrap64 (x7_2 - 7)) then (if (wrap64 (x7_2 - 7)) < (x5_2.length : Int) then (if x5_2.length < 35184372088832 then (batonref02_Rounds.l1 k2 l0 (x5_2 ++ [((((((rd x5_2 (wrap64 (x7_2 - 16))) + (Go.bits .xor .u32 (Go.bits .xor .u32 t214 t215) t216)) % 4294967296) + (rd x5_2 (wrap64 (x7_2 - 7)))) % 4294967296) + (Go.bits .xor .u32 (Go.bits .xor .u32 t217 t218) t219)) % 4294967296]) (wrap64 (x7_2 + 1))) else (none)) else (none)) else (none)) else (none)) else (none))))) = some r := H
           have A22 := Aside0.mk A220
           clear A220
           replace H := Option.bind_eq_some_iff.mp H
           obtain ⟨t217, A230, H⟩ := H
           replace H : ((batonref01_Rot.f k2 (rd x5_2 (ji17)) 19).bind fun t218 => ((batonref02_shr.f k2 (rd x5_2 (ji17)) 10).bind fun t219 => (if 0 ≤ (wrap64 (x7_2 - 16)) then (if (wrap64 (x7_2 - 16)) < (x5_2.length : Int) then (if 0 ≤ (wrap64 (x7_2 - 7)) then (if (wrap64 (x7_2 - 7)) < (x5_2.length : Int) then (if x5_2.length < 35184372088832 then (batonref02_Rounds.l1 k2 l0 (x5_2 ++ [((((((rd x5_2 (wrap64 (x7_2 - 16))) + (Go.bits .xor .u32 (Go.bits .xor .u32 t214 t215) t216)) % 4294967296) + (rd x5_2 (wrap64 (x7_2 - 7)))) % 4294967296) + (Go.bits .xor .u32 (Go.bits .xor .u32 t217 t218) t219)) % 4294967296]) (wrap64 (x7_2 + 1))) else (none)) else (none)) else (none)) else (none)) else (none)))) = some r := H
           have A23 := Aside0.mk A230
           clear A230
           replace H := Option.bind_eq_some_iff.mp H
           obtain ⟨t218, A240, H⟩ := H
           replace H : ((batonref02_shr.f k2 (rd x5_2 (ji17)) 10).bind fun t219 => (if 0 ≤ (wrap64 (x7_2 - 16)) then (if (wrap64 (x7_2 - 16)) < (x5_2.length : Int) then (if 0 ≤ (wrap64 (x7_2 - 7)) then (if (wrap64 (x7_2 - 7)) < (x5_2.length : Int) then (if x5_2.length < 35184372088832 then (batonref02_Rounds.l1 k2 l0 (x5_2 ++ [((((((rd x5_2 (wrap64 (x7_2 - 16))) + (Go.bits .xor .u32 (Go.bits .xor .u32 t214 t215) t216)) % 4294967296) + (rd x5_2 (wrap64 (x7_2 - 7)))) % 4294967296) + (Go.bits .xor .u32 (Go.bits .xor .u32 t217 t218) t219)) % 4294967296]) (wrap64 (x7_2 + 1))) else (none)) else (none)) else (none)) else (none)) else (none))) = some r := H
           have A24 := Aside0.mk A240
           clear A240
           replace H := Option.bind_eq_some_iff.mp H
           obtain ⟨t219, A250, H⟩ := H
           replace H : (if 0 ≤ (wrap64 (x7_2 - 16)) then (if (wrap64 (x7_2 - 16)) < (x5_2.length : Int) then (if 0 ≤ (wrap64 (x7_2 - 7)) then (if (wrap64 (x7_2 - 7)) < (x5_2.length : Int) then (if x5_2.length < 35184372088832 then (batonref02_Rounds.l1 k2 l0 (x5_2 ++ [((((((rd x5_2 (wrap64 (x7_2 - 16))) + (Go.bits .xor .u32 (Go.bits .xor .u32 t214 t215) t216)) % 4294967296) + (rd x5_2 (wrap64 (x7_2 - 7)))) % 4294967296) + (Go.bits .xor .u32 (Go.bits .xor .u32 t217 t218) t219)) % 4294967296]) (wrap64 (x7_2 + 1))) else (none)) else (none)) else (none)) else (none)) else (none)) = some r := H
           have A25 := Aside0.mk A250
           clear A250
           obtain ⟨ji26, hji26⟩ : ∃ j_ : Int, (wrap64 (x7_2 - 16)) = j_ := ⟨_, rfl⟩
           replace H : (if 0 ≤ (ji26) then (if (ji26) < (x5_2.length : Int) then (if 0 ≤ (wrap64 (x7_2 - 7)) then (if (wrap64 (x7_2 - 7)) < (x5_2.length : Int) then (if x5_2.length < 35184372088832 then (batonref02_Rounds.l1 k2 l0 (x5_2 ++ [((((((rd x5_2 (ji26)) + (Go.bits .xor .u32 (Go.bits .xor .u32 t214 t215) t216)) % 4294967296) + (rd x5_2 (wrap64 (x7_2 - 7)))) % 4294967296) + (Go.bits .xor .u32 (Go.bits .xor .u32 t217 t218) t219)) % 4294967296]) (wrap64 (x7_2 + 1))) else (none)) else (none)) else (none)) else (none)) else (none)) = some r := by first | (rw [hji26] at H; exact H) | (simp only [hji26] at H ⊢; exact H)
           (try rw [hji26] at A20)
           (try rw [hji26] at A21)
           (try rw [hji26] at A22)
           (try rw [hji26] at A23)
           (try rw [hji26] at A24)
           (try rw [hji26] at A25)
           have hji26w : (IntKind.i64.wrap (x7_2 - 16)) = ji26 := (i64_w _).trans hji26
           by_cases c27 : 0 ≤ (ji26)
           ·rw [if_pos c27] at H
            have c27b0 : decide (0 ≤ (ji26)) = true := decide_eq_true c27
            clear c27
            by_cases c28 : (ji26) < (x5_2.length : Int)
            ·rw [if_pos c28] at H
             have c28b0 : decide ((ji26) < (x5_2.length : Int)) = true := decide_eq_true c28
             clear c28
             obtain ⟨ji29, hji29⟩ : ∃ j_ : Int, (wrap64 (x7_2 - 7)) = j_ := ⟨_, rfl⟩
             replace H : (if 0 ≤ (ji29) then (if (ji29) < (x5_2.length : Int) then (if x5_2.length < 35184372088832 then (batonref02_Rounds.l1 k2 l0 (x5_2 ++ [((((((rd x5_2 (ji26)) + (Go.bits .xor .u32 (Go.bits .xor .u32 t214 t215) t216)) % 4294967296) + (rd x5_2 (ji29))) % 4294967296) + (Go.bits .xor .u32 (Go.bits .xor .u32 t217 t218) t219)) % 4294967296]) (wrap64 (x7_2 + 1))) else (none)) else (none)) else (none)) = some r := by first | (rw [hji29] at H; exact H) | (simp only [hji29] at H ⊢; exact H)
             (try rw [hji29] at A20)
             (try rw [hji29] at A21)
             (try rw [hji29] at A22)
             (try rw [hji29] at A23)
             (try rw [hji29] at A24)
             (try rw [hji29] at A25)
             have hji29w : (IntKind.i64.wrap (x7_2 - 7)) = ji29 := (i64_w _).trans hji29
             by_cases c30 : 0 ≤ (ji29)
             ·rw [if_pos c30] at H
              have c30b0 : decide (0 ≤ (ji29)) = true := decide_eq_true c30
              clear c30
              by_cases c31 : (ji29) < (x5_2.length : Int)
              ·rw [if_pos c31] at H
               have c31b0 : decide ((ji29) < (x5_2.length : Int)) = true := decide_eq_true c31
               clear c31
               by_cases c32 : x5_2.length < 35184372088832
               ·rw [if_pos c32] at H
                have LMc32 := Aside0.mk c32
                clear c32
                obtain ⟨y222, hy222⟩ : ∃ y_ : List Int, y_ = (x5_2 ++ [((((((rd x5_2 (ji26)) + (Go.bits .xor .u32 (Go.bits .xor .u32 t214 t215) t216)) % 4294967296) + (rd x5_2 (ji29))) % 4294967296) + (Go.bits .xor .u32 (Go.bits .xor .u32 t217 t218) t219)) % 4294967296]) := ⟨_, rfl⟩
                replace H : (batonref02_Rounds.l1 k2 l0 y222 (wrap64 (x7_2 + 1))) = some r := by first | (rw [hy222]; with_reducible exact H) | (have H2_ := (Option.bind_some _ _).symm.trans H; rw [hy222]; with_reducible exact H2_) | (have H2_ := (Option.bind_some _ _).symm.trans H; with_reducible exact H2_) | with_reducible exact H | (rw [hy222]; exact H) | exact H
                have Ny222 := Aside0.mk hy222
                clear hy222
                have H' := Aside0.mk H
                clear H
                try go_wp2
                have n0_ := Aside0.mk (Kd.R_drew HO_5.out)
                have n1_ := Aside0.mk (below_drew1 HB.out)
                clear HO_5
                clear HB
                have HO_5 := n0_
                have HB := n1_
                clear n0_ n1_
                obtain ⟨Ao34, co34, eo34⟩ := Kd.R_slice HO_5.out
                (first | subst eo34 | (injection eo34 with f1_ f2_ f3_; have f4_ := f1_.symm; have f5_ := f3_.symm; clear f1_ f2_ f3_; subst f4_; subst f5_))
                have p212 : 0 ≤ ((ji14) : Int) := of_decide_eq_true q7_2
                have q212 : (ji14) < (x5_2.length : Int) := of_decide_eq_true q7_2
                obtain ⟨ad212, e212, hx212_0⟩ := Kd.at_int (Kd.R_reads' HO_5.out).2.2 (ji14) p212 q212
                cases e212
                replace p212 := eq_true p212
                replace q212 := eq_true q212
                have p213 : 0 ≤ ((ji17) : Int) := of_decide_eq_true q7_2
                have q213 : (ji17) < (x5_2.length : Int) := of_decide_eq_true q7_2
                obtain ⟨ad213, e213, hx213_0⟩ := Kd.at_int (Kd.R_reads' HO_5.out).2.2 (ji17) p213 q213
                obtain rfl : ad212 = ad213 := (by injection e213)
                replace p213 := eq_true p213
                replace q213 := eq_true q213
                refine start_ (n := 12) (S := fun w' => w'.cell? (ad212.add ((ji14)).toNat) = some (.int .u32 (rd x5_2 (ji14))) ∧ w'.cell? (ad212.add ((ji17)).toNat) = some (.int .u32 (rd x5_2 (ji17)))) (ds := []) #[false, false, false, false, false, false, false, false, false, false, false, false] q7_1 rfl rfl ⟨hx212_0, hx213_0⟩ (fun hHeld => ?_); refine with_tabW batonref02_Rounds.tab9 batonref02_Rounds.bits9 (fun HT_ HW_ => ?_)
                generalize wr.drew = w33 at HO_5 HB hx212_0 hx213_0 hHeld ⊢
                refine pure_ (i := 0) (N := some 44) (v := ?_) (a' := ?_) #[true, false, false, false, false, false, false, false, false, false, false, false] rfl rfl (any_of HT_.out q7_1) (fun _ _ _ h => h) (Or.inl ⟨by rfl, ?_⟩) ?_ ?_
                rotate_left
                ·intro w'
                 go_simp
                 with_reducible rfl
                rotate_left
                ·simp only [Act.put, List.setIfInBounds_toArray, List.set_cons_zero, List.set_cons_succ, i64_w, i32_w]
                 rfl
                refine pure_ (i := 1) (N := some 45) (v := ?_) (a' := ?_) #[true, true, false, false, false, false, false, false, false, false, false, false] rfl rfl (any_of HT_.out q7_1) (fun _ _ _ h => h) (Or.inl ⟨by rfl, ?_⟩) ?_ ?_
                rotate_left
                ·intro w'
                 go_simp
                 with_reducible rfl
                rotate_left
                ·simp only [Act.put, List.setIfInBounds_toArray, List.set_cons_zero, List.set_cons_succ, i64_w, i32_w]
                 rfl
                refine pure_ (i := 2) (N := some 46) (v := ?_) (a' := ?_) #[true, true, true, false, false, false, false, false, false, false, false, false] rfl rfl (any_of HT_.out q7_1) (fun _ _ _ h => h) (Or.inl ⟨by rfl, ?_⟩) ?_ ?_
                rotate_left
                ·intro w'
                 go_simp
                 with_reducible rfl
                rotate_left
                ·simp only [Act.put, List.setIfInBounds_toArray, List.set_cons_zero, List.set_cons_succ, i64_w, i32_w]
                 rfl
                refine pure_ (i := 3) (N := some 47) (v := ?_) (a' := ?_) #[true, true, true, true, false, false, false, false, false, false, false, false] rfl rfl (any_of HT_.out q7_1) (fun _ _ _ h => h) (Or.inl ⟨by rfl, ?_⟩) ?_ ?_
                rotate_left
                ·intro w'
                 go_simp
                 with_reducible rfl
                rotate_left
                ·simp only [Act.put, List.setIfInBounds_toArray, List.set_cons_zero, List.set_cons_succ, i64_w, i32_w]
                 rfl
                refine pure_ (i := 5) (N := some 49) (v := ?_) (a' := ?_) #[true, true, true, true, false, true, false, false, false, false, false, false] rfl rfl (any_of HT_.out q7_1) (fun _ _ _ h => h) (Or.inl ⟨by rfl, ?_⟩) ?_ ?_
                rotate_left
                ·intro w'
                 go_simp
                 with_reducible rfl
                rotate_left
                ·simp only [Act.put, List.setIfInBounds_toArray, List.set_cons_zero, List.set_cons_succ, i64_w, i32_w]
                 rfl
                refine pure_ (i := 6) (N := some 50) (v := ?_) (a' := ?_) #[true, true, true, true, false, true, true, false, false, false, false, false] rfl rfl (any_of HT_.out q7_1) (fun _ _ _ h => h) (Or.inl ⟨by rfl, ?_⟩) ?_ ?_
                rotate_left
                ·intro w'
                 go_simp
                 with_reducible rfl
                rotate_left
                ·simp only [Act.put, List.setIfInBounds_toArray, List.set_cons_zero, List.set_cons_succ, i64_w, i32_w]
                 rfl
                refine pure_ (i := 7) (N := some 51) (v := ?_) (a' := ?_) #[true, true, true, true, false, true, true, true, false, false, false, false] rfl rfl (any_of HT_.out q7_1) (fun _ _ _ h => h) (Or.inl ⟨by rfl, ?_⟩) ?_ ?_
                rotate_left
                ·intro w'
                 go_simp
                 with_reducible rfl
                rotate_left
                ·simp only [Act.put, List.setIfInBounds_toArray, List.set_cons_zero, List.set_cons_succ, i64_w, i32_w]
                 rfl
                refine pure_ (i := 8) (N := some 52) (v := ?_) (a' := ?_) #[true, true, true, true, false, true, true, true, true, false, false, false] rfl rfl (any_of HT_.out q7_1) (fun _ _ _ h => h) (Or.inl ⟨by rfl, ?_⟩) ?_ ?_
                rotate_left
                ·intro w'
                 go_simp
                 with_reducible rfl
                rotate_left
                ·simp only [Act.put, List.setIfInBounds_toArray, List.set_cons_zero, List.set_cons_succ, i64_w, i32_w]
                 rfl
                refine take_ (i := 4) (N := some 48) (v := ?_) (a' := ?_) #[true, true, true, true, true, true, true, true, true, false, false, false] rfl rfl (take_ofW HT_.out HW_.out q7_1) (fun _ _ _ h => h) (Or.inl ⟨by rfl, ?_⟩) hHeld ?_ ?_
                rotate_left
                ·rintro w' ⟨s0, s1⟩
                 go_simp
                 with_reducible rfl
                rotate_left
                ·simp only [Act.put, List.setIfInBounds_toArray, List.set_cons_zero, List.set_cons_succ, i64_w, i32_w]
                 rfl
                refine pure_ (i := 10) (N := some 8) (v := ?_) (a' := ?_) #[true, true, true, true, true, true, true, true, true, false, true, false] rfl rfl (any_of HT_.out q7_1) (fun _ _ _ h => h) (Or.inl ⟨by rfl, ?_⟩) ?_ ?_
                rotate_left
                ·intro w'
                 go_simp
                 with_reducible rfl
                rotate_left
                ·simp only [Act.put, List.setIfInBounds_toArray, List.set_cons_zero, List.set_cons_succ, i64_w, i32_w]
                 rfl
                refine take_ (i := 9) (N := some 53) (v := ?_) (a' := ?_) #[true, true, true, true, true, true, true, true, true, true, true, false] rfl rfl (take_ofW HT_.out HW_.out q7_1) (fun _ _ _ h => h) (Or.inl ⟨by rfl, ?_⟩) hHeld ?_ ?_
                rotate_left
                ·rintro w' ⟨s0, s1⟩
                 go_simp
                 with_reducible rfl
                rotate_left
                ·simp only [Act.put, List.setIfInBounds_toArray, List.set_cons_zero, List.set_cons_succ, i64_w, i32_w]
                 rfl
                refine pure_ (i := 11) (N := some 9) (v := ?_) (a' := ?_) #[true, true, true, true, true, true, true, true, true, true, true, true] rfl rfl (any_of HT_.out q7_1) (fun _ _ _ h => h) (Or.inl ⟨by rfl, ?_⟩) ?_ ?_
                rotate_left
                ·intro w'
                 go_simp
                 with_reducible rfl
                rotate_left
                ·simp only [Act.put, List.setIfInBounds_toArray, List.set_cons_zero, List.set_cons_succ, i64_w, i32_w]
                 rfl
                refine done_ (done_of HT_.out q7_1) ?_
                try go_wp2_with (first | ((with_reducible refine gate_callee (f := 130) rfl ?_); refine goesL_ (some 55) rfl rfl Try.func130 q7_1 rfl #[.int .u32 (rd x5_2 (ji14)), .int .i64 7] rfl q7_7 ?_; (with_reducible refine (batonref01_Rot.calls k2 (rd x5_2 (ji14)) 7 t214 _ A20.out).mono ?_); rintro e w' ⟨rfl, ⟨nd, rfl⟩⟩; refine ⟨_, rfl, ?_⟩) | ((with_reducible refine gate_callee (f := 130) rfl ?_); refine goesL_ (some 57) rfl rfl Try.func130 q7_1 rfl #[.int .u32 (rd x5_2 (ji14)), .int .i64 18] rfl q7_7 ?_; (with_reducible refine (batonref01_Rot.calls k2 (rd x5_2 (ji14)) 18 t215 _ A21.out).mono ?_); rintro e w' ⟨rfl, ⟨nd, rfl⟩⟩; refine ⟨_, rfl, ?_⟩) | ((with_reducible refine gate_callee (f := 131) rfl ?_); refine goesL_ (some 60) rfl rfl Try.func131 q7_1 rfl #[.int .u32 (rd x5_2 (ji14)), .int .i64 3] rfl q7_7 ?_; (with_reducible refine (batonref02_shr.calls k2 (rd x5_2 (ji14)) 3 t216 _ A22.out).mono ?_); rintro e w' ⟨rfl, ⟨nd, rfl⟩⟩; refine ⟨_, rfl, ?_⟩) | ((with_reducible refine gate_callee (f := 130) rfl ?_); refine goesL_ (some 63) rfl rfl Try.func130 q7_1 rfl #[.int .u32 (rd x5_2 (ji17)), .int .i64 17] rfl q7_6 ?_; (with_reducible refine (batonref01_Rot.calls k2 (rd x5_2 (ji17)) 17 t217 _ A23.out).mono ?_); rintro e w' ⟨rfl, ⟨nd, rfl⟩⟩; refine ⟨_, rfl, ?_⟩) | ((with_reducible refine gate_callee (f := 130) rfl ?_); refine goesL_ (some 65) rfl rfl Try.func130 q7_1 rfl #[.int .u32 (rd x5_2 (ji17)), .int .i64 19] rfl q7_6 ?_; (with_reducible refine (batonref01_Rot.calls k2 (rd x5_2 (ji17)) 19 t218 _ A24.out).mono ?_); rintro e w' ⟨rfl, ⟨nd, rfl⟩⟩; refine ⟨_, rfl, ?_⟩) | ((with_reducible refine gate_callee (f := 131) rfl ?_); refine goesL_ (some 68) rfl rfl Try.func131 q7_1 rfl #[.int .u32 (rd x5_2 (ji17)), .int .i64 10] rfl q7_6 ?_; (with_reducible refine (batonref02_shr.calls k2 (rd x5_2 (ji17)) 10 t219 _ A25.out).mono ?_); rintro e w' ⟨rfl, ⟨nd, rfl⟩⟩; refine ⟨_, rfl, ?_⟩))
                (try (rw [drewN_self w33]; generalize hq_ : World.drewN w33 _ = w33; have n0_ : Aside0 (Kd.R (Kd.int .u32) 199 w33 w.heap.size (fun _ => True) (.slice (some ad212) x5_2.length co34) x5_2) := ⟨by rw [← hq_]; exact q7_5⟩; have n1_ : Aside0 (Below w.heap.size w w33) := ⟨by rw [← hq_]; exact q7_3⟩; clear HO_5 HB hq_; have HO_5 := n0_; have HB := n1_; clear n0_ n1_))
                have n0_ := Aside0.mk (Kd.R_drew HO_5.out)
                have n1_ := Aside0.mk (below_drew1 HB.out)
                clear HO_5
                clear HB
                have HO_5 := n0_
                have HB := n1_
                clear n0_ n1_
                have p220 : 0 ≤ ((ji26) : Int) := of_decide_eq_true q7_2
                have q220 : (ji26) < (x5_2.length : Int) := of_decide_eq_true q7_2
                obtain ⟨ad220, e220, hx220_0⟩ := Kd.at_int (Kd.R_reads' HO_5.out).2.2 (ji26) p220 q220
                obtain rfl : ad212 = ad220 := (by injection e220)
                replace p220 := eq_true p220
                replace q220 := eq_true q220
                have p221 : 0 ≤ ((ji29) : Int) := of_decide_eq_true q7_2
                have q221 : (ji29) < (x5_2.length : Int) := of_decide_eq_true q7_2
                obtain ⟨ad221, e221, hx221_0⟩ := Kd.at_int (Kd.R_reads' HO_5.out).2.2 (ji29) p221 q221
                obtain rfl : ad212 = ad221 := (by injection e221)
                replace p221 := eq_true p221
                replace q221 := eq_true q221
                refine start_ (n := 19) (S := fun w' => w'.cell? (ad212.add ((ji26)).toNat) = some (.int .u32 (rd x5_2 (ji26))) ∧ w'.cell? (ad212.add ((ji29)).toNat) = some (.int .u32 (rd x5_2 (ji29)))) (ds := [16, 17]) #[false, false, false, false, false, false, false, false, false, false, false, false, false, false, false, false, false, false, false] q7_1 rfl rfl ⟨hx220_0, hx221_0⟩ (fun hHeld => ?_); refine with_tabW batonref02_Rounds.tab12 batonref02_Rounds.bits12 (fun HT_ HW_ => ?_)
                generalize w33.drew = w35 at HO_5 HB hx220_0 hx221_0 hHeld ⊢
                refine pure_ (i := 0) (N := some 70) (v := ?_) (a' := ?_) #[true, false, false, false, false, false, false, false, false, false, false, false, false, false, false, false, false, false, false] rfl rfl (any_of HT_.out q7_1) (fun _ _ _ h => h) (Or.inl ⟨by rfl, ?_⟩) ?_ ?_
                rotate_left
                ·intro w'
                 go_simp
                 with_reducible rfl
                rotate_left
                ·simp only [Act.put, List.setIfInBounds_toArray, List.set_cons_zero, List.set_cons_succ, i64_w, i32_w]
                 rfl
                refine pure_ (i := 1) (N := some 71) (v := ?_) (a' := ?_) #[true, true, false, false, false, false, false, false, false, false, false, false, false, false, false, false, false, false, false] rfl rfl (any_of HT_.out q7_1) (fun _ _ _ h => h) (Or.inl ⟨by rfl, ?_⟩) ?_ ?_
                rotate_left
                ·intro w'
                 go_simp
                 with_reducible rfl
                rotate_left
                ·simp only [Act.put, List.setIfInBounds_toArray, List.set_cons_zero, List.set_cons_succ, i64_w, i32_w]
                 rfl
                refine pure_ (i := 2) (N := some 72) (v := ?_) (a' := ?_) #[true, true, true, false, false, false, false, false, false, false, false, false, false, false, false, false, false, false, false] rfl rfl (any_of HT_.out q7_1) (fun _ _ _ h => h) (Or.inl ⟨by rfl, ?_⟩) ?_ ?_
                rotate_left
                ·intro w'
                 go_simp
                 with_reducible rfl
                rotate_left
                ·simp only [Act.put, List.setIfInBounds_toArray, List.set_cons_zero, List.set_cons_succ, i64_w, i32_w]
                 rfl
                refine pure_ (i := 3) (N := some 73) (v := ?_) (a' := ?_) #[true, true, true, true, false, false, false, false, false, false, false, false, false, false, false, false, false, false, false] rfl rfl (any_of HT_.out q7_1) (fun _ _ _ h => h) (Or.inl ⟨by rfl, ?_⟩) ?_ ?_
                rotate_left
                ·intro w'
                 go_simp
                 with_reducible rfl
                rotate_left
                ·simp only [Act.put, List.setIfInBounds_toArray, List.set_cons_zero, List.set_cons_succ, i64_w, i32_w]
                 rfl
                refine pure_ (i := 4) (N := some 74) (v := ?_) (a' := ?_) #[true, true, true, true, true, false, false, false, false, false, false, false, false, false, false, false, false, false, false] rfl rfl (any_of HT_.out q7_1) (fun _ _ _ h => h) (Or.inl ⟨by rfl, ?_⟩) ?_ ?_
                rotate_left
                ·intro w'
                 go_simp
                 with_reducible rfl
                rotate_left
                ·simp only [Act.put, List.setIfInBounds_toArray, List.set_cons_zero, List.set_cons_succ, i64_w, i32_w]
                 rfl
                refine pure_ (i := 6) (N := some 76) (v := ?_) (a' := ?_) #[true, true, true, true, true, false, true, false, false, false, false, false, false, false, false, false, false, false, false] rfl rfl (any_of HT_.out q7_1) (fun _ _ _ h => h) (Or.inl ⟨by rfl, ?_⟩) ?_ ?_
                rotate_left
                ·intro w'
                 go_simp
                 with_reducible rfl
                rotate_left
                ·simp only [Act.put, List.setIfInBounds_toArray, List.set_cons_zero, List.set_cons_succ, i64_w, i32_w]
                 rfl
                refine pure_ (i := 8) (N := some 78) (v := ?_) (a' := ?_) #[true, true, true, true, true, false, true, false, true, false, false, false, false, false, false, false, false, false, false] rfl rfl (any_of HT_.out q7_1) (fun _ _ _ h => h) (Or.inl ⟨by rfl, ?_⟩) ?_ ?_
                rotate_left
                ·intro w'
                 go_simp
                 with_reducible rfl
                rotate_left
                ·simp only [Act.put, List.setIfInBounds_toArray, List.set_cons_zero, List.set_cons_succ, i64_w, i32_w]
                 rfl
                refine pure_ (i := 9) (N := some 79) (v := ?_) (a' := ?_) #[true, true, true, true, true, false, true, false, true, true, false, false, false, false, false, false, false, false, false] rfl rfl (any_of HT_.out q7_1) (fun _ _ _ h => h) (Or.inl ⟨by rfl, ?_⟩) ?_ ?_
                rotate_left
                ·intro w'
                 go_simp
                 with_reducible rfl
                rotate_left
                ·simp only [Act.put, List.setIfInBounds_toArray, List.set_cons_zero, List.set_cons_succ, i64_w, i32_w]
                 rfl
                refine pure_ (i := 10) (N := some 80) (v := ?_) (a' := ?_) #[true, true, true, true, true, false, true, false, true, true, true, false, false, false, false, false, false, false, false] rfl rfl (any_of HT_.out q7_1) (fun _ _ _ h => h) (Or.inl ⟨by rfl, ?_⟩) ?_ ?_
                rotate_left
                ·intro w'
                 go_simp
                 with_reducible rfl
                rotate_left
                ·simp only [Act.put, List.setIfInBounds_toArray, List.set_cons_zero, List.set_cons_succ, i64_w, i32_w]
                 rfl
                refine pure_ (i := 11) (N := some 81) (v := ?_) (a' := ?_) #[true, true, true, true, true, false, true, false, true, true, true, true, false, false, false, false, false, false, false] rfl rfl (any_of HT_.out q7_1) (fun _ _ _ h => h) (Or.inl ⟨by rfl, ?_⟩) ?_ ?_
                rotate_left
                ·intro w'
                 go_simp
                 with_reducible rfl
                rotate_left
                ·simp only [Act.put, List.setIfInBounds_toArray, List.set_cons_zero, List.set_cons_succ, i64_w, i32_w]
                 rfl
                refine pure_ (i := 14) (N := some 84) (v := ?_) (a' := ?_) #[true, true, true, true, true, false, true, false, true, true, true, true, false, false, true, false, false, false, false] rfl rfl (any_of HT_.out q7_1) (fun _ _ _ h => h) (Or.inl ⟨by rfl, ?_⟩) ?_ ?_
                rotate_left
                ·intro w'
                 go_simp
                 with_reducible rfl
                rotate_left
                ·simp only [Act.put, List.setIfInBounds_toArray, List.set_cons_zero, List.set_cons_succ, i64_w, i32_w]
                 rfl
                refine take_ (i := 5) (N := some 75) (v := ?_) (a' := ?_) #[true, true, true, true, true, true, true, false, true, true, true, true, false, false, true, false, false, false, false] rfl rfl (take_ofW HT_.out HW_.out q7_1) (fun _ _ _ h => h) (Or.inl ⟨by rfl, ?_⟩) hHeld ?_ ?_
                rotate_left
                ·rintro w' ⟨s0, s1⟩
                 go_simp
                 with_reducible rfl
                rotate_left
                ·simp only [Act.put, List.setIfInBounds_toArray, List.set_cons_zero, List.set_cons_succ, i64_w, i32_w]
                 rfl
                refine pure_ (i := 7) (N := some 77) (v := ?_) (a' := ?_) #[true, true, true, true, true, true, true, true, true, true, true, true, false, false, true, false, false, false, false] rfl rfl (any_of HT_.out q7_1) (fun _ _ _ h => h) (Or.inl ⟨by rfl, ?_⟩) ?_ ?_
                rotate_left
                ·intro w'
                 go_simp
                 with_reducible rfl
                rotate_left
                ·simp only [Act.put, List.setIfInBounds_toArray, List.set_cons_zero, List.set_cons_succ, i64_w, i32_w]
                 rfl
                refine take_ (i := 12) (N := some 82) (v := ?_) (a' := ?_) #[true, true, true, true, true, true, true, true, true, true, true, true, true, false, true, false, false, false, false] rfl rfl (take_ofW HT_.out HW_.out q7_1) (fun _ _ _ h => h) (Or.inl ⟨by rfl, ?_⟩) hHeld ?_ ?_
                rotate_left
                ·rintro w' ⟨s0, s1⟩
                 go_simp
                 with_reducible rfl
                rotate_left
                ·simp only [Act.put, List.setIfInBounds_toArray, List.set_cons_zero, List.set_cons_succ, i64_w, i32_w]
                 rfl
                refine pure_ (i := 13) (N := some 83) (v := ?_) (a' := ?_) #[true, true, true, true, true, true, true, true, true, true, true, true, true, true, true, false, false, false, false] rfl rfl (any_of HT_.out q7_1) (fun _ _ _ h => h) (Or.inl ⟨by rfl, ?_⟩) ?_ ?_
                rotate_left
                ·intro w'
                 go_simp
                 with_reducible rfl
                rotate_left
                ·simp only [Act.put, List.setIfInBounds_toArray, List.set_cons_zero, List.set_cons_succ, i64_w, i32_w]
                 rfl
                refine pure_ (i := 15) (N := some 85) (v := ?_) (a' := ?_) #[true, true, true, true, true, true, true, true, true, true, true, true, true, true, true, true, false, false, false] rfl rfl (any_of HT_.out q7_1) (fun _ _ _ h => h) (Or.inl ⟨by rfl, ?_⟩) ?_ ?_
                rotate_left
                ·intro w'
                 go_simp
                 with_reducible rfl
                rotate_left
                ·simp only [Act.put, List.setIfInBounds_toArray, List.set_cons_zero, List.set_cons_succ, i64_w, i32_w]
                 rfl
                refine last_ (i := 16) (N := some 86) #[true, true, true, true, true, true, true, true, true, true, true, true, true, true, true, true, true, false, false] rfl rfl (one_of HT_.out q7_1) (by decide) (fun K hK => ?_)
                refine value_ (w1 := ?_) (v := ?_) (by rfl) rfl ?_ ?_
                rotate_left 2
                ·go_simp
                 constructor
                 ·rfl
                 ·rfl
                refine hK.out _ _ ?_
                clear hK K
                refine norm_ (a' := ?_) ?_ ?_
                rotate_left
                ·show Act.put _ (some 86) _ = _
                 simp only [Act.put, List.setIfInBounds_toArray, List.set_cons_zero, List.set_cons_succ, i64_w, i32_w]
                 rfl
                refine last_ (i := 17) (N := some 87) #[true, true, true, true, true, true, true, true, true, true, true, true, true, true, true, true, true, true, false] rfl rfl (one_of HT_.out q7_1) (by decide) (fun K hK => ?_)
                refine Kd.R_append_step (Kd.int .u32) (w0 := w) w.heap.size (by rfl) (.tmp 70) (.tmp 86) 196 199 (.int .u32 0) 4 rfl Try.underlying196 info199 rfl (by decide) q7_8 (.slice (some ad212) x5_2.length co34) x5_2 (((((((rd x5_2 (ji26)) + (Go.bits .xor .u32 (Go.bits .xor .u32 t214 t215) t216)) % 4294967296) + (rd x5_2 (ji29))) % 4294967296) + (Go.bits .xor .u32 (Go.bits .xor .u32 t217 t218) t219)) % 4294967296) [.int .u32 (((((((rd x5_2 (ji26)) + (Go.bits .xor .u32 (Go.bits .xor .u32 t214 t215) t216)) % 4294967296) + (rd x5_2 (ji29))) % 4294967296) + (Go.bits .xor .u32 (Go.bits .xor .u32 t217 t218) t219)) % 4294967296)] (fun _ => True) (fun _ => False) rfl rfl ?aP (fun _ hk => hk.elim) ?aF ?aO ?aB ?aS ?aL ?_
                (case aP => exact rfl)
                (case aB => exact q7_3)
                (case aF => exact (fun _ _ => trivial))
                (case aO => exact q7_5)
                (case aS => exact (below_size q7_3))
                (case aL => have := LMc32.out; omega)
                intro v223 w36 ho hb hg hat
                rw [← Ny222.out] at ho
                have n0_ := Aside0.mk (hb)
                have n1_ := Aside0.mk (ho)
                clear HB
                clear HO_5
                have HB := n0_
                have HO224 := n1_
                clear n0_ n1_
                clear ho hb hg hat
                refine hK.out _ _ ?_
                clear hK K
                refine norm_ (a' := ?_) ?_ ?_
                rotate_left
                ·show Act.put _ (some 87) _ = _
                 simp only [Act.put, List.setIfInBounds_toArray, List.set_cons_zero, List.set_cons_succ, i64_w, i32_w]
                 rfl
                refine pure_ (i := 18) (N := some 5) (v := ?_) (a' := ?_) #[true, true, true, true, true, true, true, true, true, true, true, true, true, true, true, true, true, true, true] rfl rfl (any_of HT_.out q7_1) (fun _ _ _ h => h) (Or.inl ⟨by rfl, ?_⟩) ?_ ?_
                rotate_left
                ·intro w'
                 go_simp
                 with_reducible rfl
                rotate_left
                ·simp only [Act.put, List.setIfInBounds_toArray, List.set_cons_zero, List.set_cons_succ, i64_w, i32_w]
                 rfl
                refine done_ (done_of HT_.out q7_1) ?_
                try go_wp2
                go_roundg k2
                case measure => have := HK1.out; have := HK2.out; omega
                case rel => exact ⟨(y222), (wrap64 (x7_2 + 1)), q7_4, H', ⟨by have := HK1.out; have := HK2.out; omega⟩, ⟨by (with_reducible repeat (first | apply Kd.R_alloc | apply Kd.R_drewN | apply Kd.R_drew)); exact HO224.out⟩, ⟨by repeat (first | (with_reducible first | exact HB.out | apply below_alloc | apply pw_below_drewN | apply below_drew1) | exact HB.out)⟩⟩
               ·rw [if_neg c32] at H
                exact absurd H q7_10
              ·rw [if_neg c31] at H
               exact absurd H q7_10
             ·rw [if_neg c30] at H
              exact absurd H q7_10
            ·rw [if_neg c28] at H
             exact absurd H q7_10
           ·rw [if_neg c27] at H
            exact absurd H q7_10
          ·rw [if_neg c19] at H
           exact absurd H q7_10
         ·rw [if_neg c18] at H
          exact absurd H q7_10
        ·rw [if_neg c16] at H
         exact absurd H q7_10
       ·rw [if_neg c15] at H
        exact absurd H q7_10
      ·rw [if_neg c13] at H
       have c13b0 : decide (x7_2 < 64) = false := decide_eq_false c13
       clear c13
       by_cases c37 : 0 < (l0.length : Int)
       ·rw [if_pos c37] at H
        have c37b0 : decide (0 < (l0.length : Int)) = true := decide_eq_true c37
        have c37b1 : decide (0 < l0.length) = true := decide_eq_true q7_8
        clear c37
        by_cases c38 : 1 < (l0.length : Int)
        ·rw [if_pos c38] at H
         have c38b0 : decide (1 < (l0.length : Int)) = true := decide_eq_true c38
         have c38b1 : decide (1 < l0.length) = true := decide_eq_true q7_8
         clear c38
         by_cases c39 : 2 < (l0.length : Int)
         ·rw [if_pos c39] at H
          have c39b0 : decide (2 < (l0.length : Int)) = true := decide_eq_true c39
          have c39b1 : decide (2 < l0.length) = true := decide_eq_true q7_8
          clear c39
          by_cases c40 : 3 < (l0.length : Int)
          ·rw [if_pos c40] at H
           have c40b0 : decide (3 < (l0.length : Int)) = true := decide_eq_true c40
           have c40b1 : decide (3 < l0.length) = true := decide_eq_true q7_8
           clear c40
           by_cases c41 : 4 < (l0.length : Int)
           ·rw [if_pos c41] at H
            have c41b0 : decide (4 < (l0.length : Int)) = true := decide_eq_true c41
            have c41b1 : decide (4 < l0.length) = true := decide_eq_true q7_8
            clear c41
            by_cases c42 : 5 < (l0.length : Int)
            ·rw [if_pos c42] at H
             have c42b0 : decide (5 < (l0.length : Int)) = true := decide_eq_true c42
             have c42b1 : decide (5 < l0.length) = true := decide_eq_true q7_8
             clear c42
             by_cases c43 : 6 < (l0.length : Int)
             ·rw [if_pos c43] at H
              have c43b0 : decide (6 < (l0.length : Int)) = true := decide_eq_true c43
              have c43b1 : decide (6 < l0.length) = true := decide_eq_true q7_8
              clear c43
              by_cases c44 : 7 < (l0.length : Int)
              ·rw [if_pos c44] at H
               have c44b0 : decide (7 < (l0.length : Int)) = true := decide_eq_true c44
               have c44b1 : decide (7 < l0.length) = true := decide_eq_true q7_8
               clear c44
               replace H := Option.bind_eq_some_iff.mp H
               obtain ⟨t233, A450, H⟩ := H
               replace H : (batonref02_Rounds.l2 k2 l0 x5_2 (rd l0 0) (rd l0 1) (rd l0 2) (rd l0 3) (rd l0 4) (rd l0 5) (rd l0 6) (rd l0 7) t233 0) = some r := H
               have A45 := Aside0.mk A450
               clear A450
               have H' := Aside0.mk H
               clear H
               try go_wp2
               have n0_ := Aside0.mk (Kd.R_drew HO_5.out)
               have n1_ := Aside0.mk (below_drew1 HB.out)
               clear HO_5
               clear HB
               have HO_5 := n0_
               have HB := n1_
               clear n0_ n1_
               have p225 : 0 ≤ (0 : Int) := q7_8
               have q225 : 0 < (l0.length : Int) := of_decide_eq_true q7_2
               obtain ⟨ad225, e225, hx225_0⟩ := Kd.at_int HR0.out 0 p225 q225
               have hw225_0 := hx225_0
               (try rw [show ((0 : Int)).toNat = 0 from rfl] at hw225_0)
               (try rw [show 0 * 1 = 0 from rfl] at hw225_0)
               (try rw [Addr.add_zero'] at hw225_0)
               cases e225
               have qi225 : (0 < l0.length) = True := eq_true q7_8
               (try rw [show ((0 : Int)).toNat = 0 from rfl] at hx225_0)
               (try rw [Addr.add_zero'] at hx225_0)
               replace hx225_0 := (HB.out.cell (World.block_lt_of_cell? w _ hx225_0)).trans hx225_0
               replace p225 := eq_true p225
               replace q225 := eq_true q225
               have p226 : 0 ≤ (1 : Int) := q7_8
               have q226 : 1 < (l0.length : Int) := of_decide_eq_true q7_2
               obtain ⟨ad226, e226, hx226_0⟩ := Kd.at_int HR0.out 1 p226 q226
               have hw226_0 := hx226_0
               (try rw [show ((1 : Int)).toNat = 1 from rfl] at hw226_0)
               (try rw [show 1 * 1 = 1 from rfl] at hw226_0)
               (try simp only [Nat.reduceMul, Nat.reduceEqDiff, Go.Addr.add, ↓reduceIte] at hw226_0)
               obtain rfl : ad225 = ad226 := (by injection e226)
               (try simp only [show (1 : Int).toNat = 1 from rfl, Nat.reduceMul, Nat.reduceEqDiff, Go.Addr.add, ↓reduceIte] at hx226_0)
               have qi226 : (1 < l0.length) = True := eq_true q7_8
               (try rw [show ((1 : Int)).toNat = 1 from rfl] at hx226_0)
               replace hx226_0 := (HB.out.cell (World.block_lt_of_cell? w _ hx226_0)).trans hx226_0
               replace p226 := eq_true p226
               replace q226 := eq_true q226
               have p227 : 0 ≤ (2 : Int) := q7_8
               have q227 : 2 < (l0.length : Int) := of_decide_eq_true q7_2
               obtain ⟨ad227, e227, hx227_0⟩ := Kd.at_int HR0.out 2 p227 q227
               have hw227_0 := hx227_0
               (try rw [show ((2 : Int)).toNat = 2 from rfl] at hw227_0)
               (try rw [show 2 * 1 = 2 from rfl] at hw227_0)
               (try simp only [Nat.reduceMul, Nat.reduceEqDiff, Go.Addr.add, ↓reduceIte] at hw227_0)
               obtain rfl : ad225 = ad227 := (by injection e227)
               (try simp only [show (2 : Int).toNat = 2 from rfl, Nat.reduceMul, Nat.reduceEqDiff, Go.Addr.add, ↓reduceIte] at hx227_0)
               have qi227 : (2 < l0.length) = True := eq_true q7_8
               (try rw [show ((2 : Int)).toNat = 2 from rfl] at hx227_0)
               replace hx227_0 := (HB.out.cell (World.block_lt_of_cell? w _ hx227_0)).trans hx227_0
               replace p227 := eq_true p227
               replace q227 := eq_true q227
               have p228 : 0 ≤ (3 : Int) := q7_8
               have q228 : 3 < (l0.length : Int) := of_decide_eq_true q7_2
               obtain ⟨ad228, e228, hx228_0⟩ := Kd.at_int HR0.out 3 p228 q228
               have hw228_0 := hx228_0
               (try rw [show ((3 : Int)).toNat = 3 from rfl] at hw228_0)
               (try rw [show 3 * 1 = 3 from rfl] at hw228_0)
               (try simp only [Nat.reduceMul, Nat.reduceEqDiff, Go.Addr.add, ↓reduceIte] at hw228_0)
               obtain rfl : ad225 = ad228 := (by injection e228)
               (try simp only [show (3 : Int).toNat = 3 from rfl, Nat.reduceMul, Nat.reduceEqDiff, Go.Addr.add, ↓reduceIte] at hx228_0)
               have qi228 : (3 < l0.length) = True := eq_true q7_8
               (try rw [show ((3 : Int)).toNat = 3 from rfl] at hx228_0)
               replace hx228_0 := (HB.out.cell (World.block_lt_of_cell? w _ hx228_0)).trans hx228_0
               replace p228 := eq_true p228
               replace q228 := eq_true q228
               have p229 : 0 ≤ (4 : Int) := q7_8
               have q229 : 4 < (l0.length : Int) := of_decide_eq_true q7_2
               obtain ⟨ad229, e229, hx229_0⟩ := Kd.at_int HR0.out 4 p229 q229
               have hw229_0 := hx229_0
               (try rw [show ((4 : Int)).toNat = 4 from rfl] at hw229_0)
               (try rw [show 4 * 1 = 4 from rfl] at hw229_0)
               (try simp only [Nat.reduceMul, Nat.reduceEqDiff, Go.Addr.add, ↓reduceIte] at hw229_0)
               obtain rfl : ad225 = ad229 := (by injection e229)
               (try simp only [show (4 : Int).toNat = 4 from rfl, Nat.reduceMul, Nat.reduceEqDiff, Go.Addr.add, ↓reduceIte] at hx229_0)
               have qi229 : (4 < l0.length) = True := eq_true q7_8
               (try rw [show ((4 : Int)).toNat = 4 from rfl] at hx229_0)
               replace hx229_0 := (HB.out.cell (World.block_lt_of_cell? w _ hx229_0)).trans hx229_0
               replace p229 := eq_true p229
               replace q229 := eq_true q229
               have p230 : 0 ≤ (5 : Int) := q7_8
               have q230 : 5 < (l0.length : Int) := of_decide_eq_true q7_2
               obtain ⟨ad230, e230, hx230_0⟩ := Kd.at_int HR0.out 5 p230 q230
               have hw230_0 := hx230_0
               (try rw [show ((5 : Int)).toNat = 5 from rfl] at hw230_0)
               (try rw [show 5 * 1 = 5 from rfl] at hw230_0)
               (try simp only [Nat.reduceMul, Nat.reduceEqDiff, Go.Addr.add, ↓reduceIte] at hw230_0)
               obtain rfl : ad225 = ad230 := (by injection e230)
               (try simp only [show (5 : Int).toNat = 5 from rfl, Nat.reduceMul, Nat.reduceEqDiff, Go.Addr.add, ↓reduceIte] at hx230_0)
               have qi230 : (5 < l0.length) = True := eq_true q7_8
               (try rw [show ((5 : Int)).toNat = 5 from rfl] at hx230_0)
               replace hx230_0 := (HB.out.cell (World.block_lt_of_cell? w _ hx230_0)).trans hx230_0
               replace p230 := eq_true p230
               replace q230 := eq_true q230
               have p231 : 0 ≤ (6 : Int) := q7_8
               have q231 : 6 < (l0.length : Int) := of_decide_eq_true q7_2
               obtain ⟨ad231, e231, hx231_0⟩ := Kd.at_int HR0.out 6 p231 q231
               have hw231_0 := hx231_0
               (try rw [show ((6 : Int)).toNat = 6 from rfl] at hw231_0)
               (try rw [show 6 * 1 = 6 from rfl] at hw231_0)
               (try simp only [Nat.reduceMul, Nat.reduceEqDiff, Go.Addr.add, ↓reduceIte] at hw231_0)
               obtain rfl : ad225 = ad231 := (by injection e231)
               (try simp only [show (6 : Int).toNat = 6 from rfl, Nat.reduceMul, Nat.reduceEqDiff, Go.Addr.add, ↓reduceIte] at hx231_0)
               have qi231 : (6 < l0.length) = True := eq_true q7_8
               (try rw [show ((6 : Int)).toNat = 6 from rfl] at hx231_0)
               replace hx231_0 := (HB.out.cell (World.block_lt_of_cell? w _ hx231_0)).trans hx231_0
               replace p231 := eq_true p231
               replace q231 := eq_true q231
               have p232 : 0 ≤ (7 : Int) := q7_8
               have q232 : 7 < (l0.length : Int) := of_decide_eq_true q7_2
               obtain ⟨ad232, e232, hx232_0⟩ := Kd.at_int HR0.out 7 p232 q232
               have hw232_0 := hx232_0
               (try rw [show ((7 : Int)).toNat = 7 from rfl] at hw232_0)
               (try rw [show 7 * 1 = 7 from rfl] at hw232_0)
               (try simp only [Nat.reduceMul, Nat.reduceEqDiff, Go.Addr.add, ↓reduceIte] at hw232_0)
               obtain rfl : ad225 = ad232 := (by injection e232)
               (try simp only [show (7 : Int).toNat = 7 from rfl, Nat.reduceMul, Nat.reduceEqDiff, Go.Addr.add, ↓reduceIte] at hx232_0)
               have qi232 : (7 < l0.length) = True := eq_true q7_8
               (try rw [show ((7 : Int)).toNat = 7 from rfl] at hx232_0)
               replace hx232_0 := (HB.out.cell (World.block_lt_of_cell? w _ hx232_0)).trans hx232_0
               replace p232 := eq_true p232
               replace q232 := eq_true q232
               refine start_ (n := 32) (S := fun w' => w'.cell? ad225 = some (.int .u32 (rd l0 0)) ∧ w'.cell? ⟨ad225.block, ad225.off + 1, none⟩ = some (.int .u32 (rd l0 1)) ∧ w'.cell? ⟨ad225.block, ad225.off + 2, none⟩ = some (.int .u32 (rd l0 2)) ∧ w'.cell? ⟨ad225.block, ad225.off + 3, none⟩ = some (.int .u32 (rd l0 3)) ∧ w'.cell? ⟨ad225.block, ad225.off + 4, none⟩ = some (.int .u32 (rd l0 4)) ∧ w'.cell? ⟨ad225.block, ad225.off + 5, none⟩ = some (.int .u32 (rd l0 5)) ∧ w'.cell? ⟨ad225.block, ad225.off + 6, none⟩ = some (.int .u32 (rd l0 6)) ∧ w'.cell? ⟨ad225.block, ad225.off + 7, none⟩ = some (.int .u32 (rd l0 7))) (ds := []) #[false, false, false, false, false, false, false, false, false, false, false, false, false, false, false, false, false, false, false, false, false, false, false, false, false, false, false, false, false, false, false, false] q7_1 rfl rfl ⟨((HB.out.cell (World.block_lt_of_cell? w _ hw225_0)).trans hw225_0), ((HB.out.cell (World.block_lt_of_cell? w _ hw226_0)).trans hw226_0), ((HB.out.cell (World.block_lt_of_cell? w _ hw227_0)).trans hw227_0), ((HB.out.cell (World.block_lt_of_cell? w _ hw228_0)).trans hw228_0), ((HB.out.cell (World.block_lt_of_cell? w _ hw229_0)).trans hw229_0), ((HB.out.cell (World.block_lt_of_cell? w _ hw230_0)).trans hw230_0), ((HB.out.cell (World.block_lt_of_cell? w _ hw231_0)).trans hw231_0), ((HB.out.cell (World.block_lt_of_cell? w _ hw232_0)).trans hw232_0)⟩ (fun hHeld => ?_); refine with_tabW batonref02_Rounds.tab13 batonref02_Rounds.bits13 (fun HT_ HW_ => ?_)
               generalize wr.drew = w46 at HO_5 HB hx225_0 hx226_0 hx227_0 hx228_0 hx229_0 hx230_0 hx231_0 hx232_0 hHeld ⊢
               refine pure_ (i := 0) (N := some 88) (v := ?_) (a' := ?_) #[true, false, false, false, false, false, false, false, false, false, false, false, false, false, false, false, false, false, false, false, false, false, false, false, false, false, false, false, false, false, false, false] rfl rfl (any_of HT_.out q7_1) (fun _ _ _ h => h) (Or.inl ⟨by rfl, ?_⟩) ?_ ?_
               rotate_left
               ·intro w'
                go_simp
                with_reducible rfl
               rotate_left
               ·simp only [Act.put, List.setIfInBounds_toArray, List.set_cons_zero, List.set_cons_succ, i64_w, i32_w]
                rfl
               refine pure_ (i := 1) (N := some 89) (v := ?_) (a' := ?_) #[true, true, false, false, false, false, false, false, false, false, false, false, false, false, false, false, false, false, false, false, false, false, false, false, false, false, false, false, false, false, false, false] rfl rfl (any_of HT_.out q7_1) (fun _ _ _ h => h) (Or.inl ⟨by rfl, ?_⟩) ?_ ?_
               rotate_left
               ·intro w'
                go_simp
                with_reducible rfl
               rotate_left
               ·simp only [Act.put, List.setIfInBounds_toArray, List.set_cons_zero, List.set_cons_succ, i64_w, i32_w]
                rfl
               refine pure_ (i := 3) (N := some 91) (v := ?_) (a' := ?_) #[true, true, false, true, false, false, false, false, false, false, false, false, false, false, false, false, false, false, false, false, false, false, false, false, false, false, false, false, false, false, false, false] rfl rfl (any_of HT_.out q7_1) (fun _ _ _ h => h) (Or.inl ⟨by rfl, ?_⟩) ?_ ?_
               rotate_left
               ·intro w'
                go_simp
                with_reducible rfl
               rotate_left
               ·simp only [Act.put, List.setIfInBounds_toArray, List.set_cons_zero, List.set_cons_succ, i64_w, i32_w]
                rfl
               refine pure_ (i := 4) (N := some 92) (v := ?_) (a' := ?_) #[true, true, false, true, true, false, false, false, false, false, false, false, false, false, false, false, false, false, false, false, false, false, false, false, false, false, false, false, false, false, false, false] rfl rfl (any_of HT_.out q7_1) (fun _ _ _ h => h) (Or.inl ⟨by rfl, ?_⟩) ?_ ?_
               rotate_left
               ·intro w'
                go_simp
                with_reducible rfl
               rotate_left
               ·simp only [Act.put, List.setIfInBounds_toArray, List.set_cons_zero, List.set_cons_succ, i64_w, i32_w]
                rfl
               refine pure_ (i := 6) (N := some 94) (v := ?_) (a' := ?_) #[true, true, false, true, true, false, true, false, false, false, false, false, false, false, false, false, false, false, false, false, false, false, false, false, false, false, false, false, false, false, false, false] rfl rfl (any_of HT_.out q7_1) (fun _ _ _ h => h) (Or.inl ⟨by rfl, ?_⟩) ?_ ?_
               rotate_left
               ·intro w'
                go_simp
                with_reducible rfl
               rotate_left
               ·simp only [Act.put, List.setIfInBounds_toArray, List.set_cons_zero, List.set_cons_succ, i64_w, i32_w]
                rfl
               refine pure_ (i := 7) (N := some 95) (v := ?_) (a' := ?_) #[true, true, false, true, true, false, true, true, false, false, false, false, false, false, false, false, false, false, false, false, false, false, false, false, false, false, false, false, false, false, false, false] rfl rfl (any_of HT_.out q7_1) (fun _ _ _ h => h) (Or.inl ⟨by rfl, ?_⟩) ?_ ?_
               rotate_left
               ·intro w'
                go_simp
                with_reducible rfl
               rotate_left
               ·simp only [Act.put, List.setIfInBounds_toArray, List.set_cons_zero, List.set_cons_succ, i64_w, i32_w]
                rfl
               refine pure_ (i := 9) (N := some 97) (v := ?_) (a' := ?_) #[true, true, false, true, true, false, true, true, false, true, false, false, false, false, false, false, false, false, false, false, false, false, false, false, false, false, false, false, false, false, false, false] rfl rfl (any_of HT_.out q7_1) (fun _ _ _ h => h) (Or.inl ⟨by rfl, ?_⟩) ?_ ?_
               rotate_left
               ·intro w'
                go_simp
                with_reducible rfl
               rotate_left
               ·simp only [Act.put, List.setIfInBounds_toArray, List.set_cons_zero, List.set_cons_succ, i64_w, i32_w]
                rfl
               refine pure_ (i := 10) (N := some 98) (v := ?_) (a' := ?_) #[true, true, false, true, true, false, true, true, false, true, true, false, false, false, false, false, false, false, false, false, false, false, false, false, false, false, false, false, false, false, false, false] rfl rfl (any_of HT_.out q7_1) (fun _ _ _ h => h) (Or.inl ⟨by rfl, ?_⟩) ?_ ?_
               rotate_left
               ·intro w'
                go_simp
                with_reducible rfl
               rotate_left
               ·simp only [Act.put, List.setIfInBounds_toArray, List.set_cons_zero, List.set_cons_succ, i64_w, i32_w]
                rfl
               refine pure_ (i := 12) (N := some 100) (v := ?_) (a' := ?_) #[true, true, false, true, true, false, true, true, false, true, true, false, true, false, false, false, false, false, false, false, false, false, false, false, false, false, false, false, false, false, false, false] rfl rfl (any_of HT_.out q7_1) (fun _ _ _ h => h) (Or.inl ⟨by rfl, ?_⟩) ?_ ?_
               rotate_left
               ·intro w'
                go_simp
                with_reducible rfl
               rotate_left
               ·simp only [Act.put, List.setIfInBounds_toArray, List.set_cons_zero, List.set_cons_succ, i64_w, i32_w]
                rfl
               refine pure_ (i := 13) (N := some 101) (v := ?_) (a' := ?_) #[true, true, false, true, true, false, true, true, false, true, true, false, true, true, false, false, false, false, false, false, false, false, false, false, false, false, false, false, false, false, false, false] rfl rfl (any_of HT_.out q7_1) (fun _ _ _ h => h) (Or.inl ⟨by rfl, ?_⟩) ?_ ?_
               rotate_left
               ·intro w'
                go_simp
                with_reducible rfl
               rotate_left
               ·simp only [Act.put, List.setIfInBounds_toArray, List.set_cons_zero, List.set_cons_succ, i64_w, i32_w]
                rfl
               refine pure_ (i := 15) (N := some 103) (v := ?_) (a' := ?_) #[true, true, false, true, true, false, true, true, false, true, true, false, true, true, false, true, false, false, false, false, false, false, false, false, false, false, false, false, false, false, false, false] rfl rfl (any_of HT_.out q7_1) (fun _ _ _ h => h) (Or.inl ⟨by rfl, ?_⟩) ?_ ?_
               rotate_left
               ·intro w'
                go_simp
                with_reducible rfl
               rotate_left
               ·simp only [Act.put, List.setIfInBounds_toArray, List.set_cons_zero, List.set_cons_succ, i64_w, i32_w]
                rfl
               refine pure_ (i := 16) (N := some 104) (v := ?_) (a' := ?_) #[true, true, false, true, true, false, true, true, false, true, true, false, true, true, false, true, true, false, false, false, false, false, false, false, false, false, false, false, false, false, false, false] rfl rfl (any_of HT_.out q7_1) (fun _ _ _ h => h) (Or.inl ⟨by rfl, ?_⟩) ?_ ?_
               rotate_left
               ·intro w'
                go_simp
                with_reducible rfl
               rotate_left
               ·simp only [Act.put, List.setIfInBounds_toArray, List.set_cons_zero, List.set_cons_succ, i64_w, i32_w]
                rfl
               refine pure_ (i := 18) (N := some 106) (v := ?_) (a' := ?_) #[true, true, false, true, true, false, true, true, false, true, true, false, true, true, false, true, true, false, true, false, false, false, false, false, false, false, false, false, false, false, false, false] rfl rfl (any_of HT_.out q7_1) (fun _ _ _ h => h) (Or.inl ⟨by rfl, ?_⟩) ?_ ?_
               rotate_left
               ·intro w'
                go_simp
                with_reducible rfl
               rotate_left
               ·simp only [Act.put, List.setIfInBounds_toArray, List.set_cons_zero, List.set_cons_succ, i64_w, i32_w]
                rfl
               refine pure_ (i := 19) (N := some 107) (v := ?_) (a' := ?_) #[true, true, false, true, true, false, true, true, false, true, true, false, true, true, false, true, true, false, true, true, false, false, false, false, false, false, false, false, false, false, false, false] rfl rfl (any_of HT_.out q7_1) (fun _ _ _ h => h) (Or.inl ⟨by rfl, ?_⟩) ?_ ?_
               rotate_left
               ·intro w'
                go_simp
                with_reducible rfl
               rotate_left
               ·simp only [Act.put, List.setIfInBounds_toArray, List.set_cons_zero, List.set_cons_succ, i64_w, i32_w]
                rfl
               refine pure_ (i := 21) (N := some 109) (v := ?_) (a' := ?_) #[true, true, false, true, true, false, true, true, false, true, true, false, true, true, false, true, true, false, true, true, false, true, false, false, false, false, false, false, false, false, false, false] rfl rfl (any_of HT_.out q7_1) (fun _ _ _ h => h) (Or.inl ⟨by rfl, ?_⟩) ?_ ?_
               rotate_left
               ·intro w'
                go_simp
                with_reducible rfl
               rotate_left
               ·simp only [Act.put, List.setIfInBounds_toArray, List.set_cons_zero, List.set_cons_succ, i64_w, i32_w]
                rfl
               refine pure_ (i := 22) (N := some 110) (v := ?_) (a' := ?_) #[true, true, false, true, true, false, true, true, false, true, true, false, true, true, false, true, true, false, true, true, false, true, true, false, false, false, false, false, false, false, false, false] rfl rfl (any_of HT_.out q7_1) (fun _ _ _ h => h) (Or.inl ⟨by rfl, ?_⟩) ?_ ?_
               rotate_left
               ·intro w'
                go_simp
                with_reducible rfl
               rotate_left
               ·simp only [Act.put, List.setIfInBounds_toArray, List.set_cons_zero, List.set_cons_succ, i64_w, i32_w]
                rfl
               refine take_ (i := 2) (N := some 90) (v := ?_) (a' := ?_) #[true, true, true, true, true, false, true, true, false, true, true, false, true, true, false, true, true, false, true, true, false, true, true, false, false, false, false, false, false, false, false, false] rfl rfl (take_ofW HT_.out HW_.out q7_1) (fun _ _ _ h => h) (Or.inl ⟨by rfl, ?_⟩) hHeld ?_ ?_
               rotate_left
               ·rintro w' ⟨s0, s1, s2, s3, s4, s5, s6, s7⟩
                go_simp
                with_reducible rfl
               rotate_left
               ·simp only [Act.put, List.setIfInBounds_toArray, List.set_cons_zero, List.set_cons_succ, i64_w, i32_w]
                rfl
               refine pure_ (i := 24) (N := some 12) (v := ?_) (a' := ?_) #[true, true, true, true, true, false, true, true, false, true, true, false, true, true, false, true, true, false, true, true, false, true, true, false, true, false, false, false, false, false, false, false] rfl rfl (any_of HT_.out q7_1) (fun _ _ _ h => h) (Or.inl ⟨by rfl, ?_⟩) ?_ ?_
               rotate_left
               ·intro w'
                go_simp
                with_reducible rfl
               rotate_left
               ·simp only [Act.put, List.setIfInBounds_toArray, List.set_cons_zero, List.set_cons_succ, i64_w, i32_w]
                rfl
               refine take_ (i := 5) (N := some 93) (v := ?_) (a' := ?_) #[true, true, true, true, true, true, true, true, false, true, true, false, true, true, false, true, true, false, true, true, false, true, true, false, true, false, false, false, false, false, false, false] rfl rfl (take_ofW HT_.out HW_.out q7_1) (fun _ _ _ h => h) (Or.inl ⟨by rfl, ?_⟩) hHeld ?_ ?_
               rotate_left
               ·rintro w' ⟨s0, s1, s2, s3, s4, s5, s6, s7⟩
                go_simp
                with_reducible rfl
               rotate_left
               ·simp only [Act.put, List.setIfInBounds_toArray, List.set_cons_zero, List.set_cons_succ, i64_w, i32_w]
                rfl
               refine pure_ (i := 25) (N := some 13) (v := ?_) (a' := ?_) #[true, true, true, true, true, true, true, true, false, true, true, false, true, true, false, true, true, false, true, true, false, true, true, false, true, true, false, false, false, false, false, false] rfl rfl (any_of HT_.out q7_1) (fun _ _ _ h => h) (Or.inl ⟨by rfl, ?_⟩) ?_ ?_
               rotate_left
               ·intro w'
                go_simp
                with_reducible rfl
               rotate_left
               ·simp only [Act.put, List.setIfInBounds_toArray, List.set_cons_zero, List.set_cons_succ, i64_w, i32_w]
                rfl
               refine take_ (i := 8) (N := some 96) (v := ?_) (a' := ?_) #[true, true, true, true, true, true, true, true, true, true, true, false, true, true, false, true, true, false, true, true, false, true, true, false, true, true, false, false, false, false, false, false] rfl rfl (take_ofW HT_.out HW_.out q7_1) (fun _ _ _ h => h) (Or.inl ⟨by rfl, ?_⟩) hHeld ?_ ?_
               rotate_left
               ·rintro w' ⟨s0, s1, s2, s3, s4, s5, s6, s7⟩
                go_simp
                with_reducible rfl
               rotate_left
               ·simp only [Act.put, List.setIfInBounds_toArray, List.set_cons_zero, List.set_cons_succ, i64_w, i32_w]
                rfl
               refine pure_ (i := 26) (N := some 14) (v := ?_) (a' := ?_) #[true, true, true, true, true, true, true, true, true, true, true, false, true, true, false, true, true, false, true, true, false, true, true, false, true, true, true, false, false, false, false, false] rfl rfl (any_of HT_.out q7_1) (fun _ _ _ h => h) (Or.inl ⟨by rfl, ?_⟩) ?_ ?_
               rotate_left
               ·intro w'
                go_simp
                with_reducible rfl
               rotate_left
               ·simp only [Act.put, List.setIfInBounds_toArray, List.set_cons_zero, List.set_cons_succ, i64_w, i32_w]
                rfl
               refine take_ (i := 11) (N := some 99) (v := ?_) (a' := ?_) #[true, true, true, true, true, true, true, true, true, true, true, true, true, true, false, true, true, false, true, true, false, true, true, false, true, true, true, false, false, false, false, false] rfl rfl (take_ofW HT_.out HW_.out q7_1) (fun _ _ _ h => h) (Or.inl ⟨by rfl, ?_⟩) hHeld ?_ ?_
               rotate_left
               ·rintro w' ⟨s0, s1, s2, s3, s4, s5, s6, s7⟩
                go_simp
                with_reducible rfl
               rotate_left
               ·simp only [Act.put, List.setIfInBounds_toArray, List.set_cons_zero, List.set_cons_succ, i64_w, i32_w]
                rfl
               refine pure_ (i := 27) (N := some 15) (v := ?_) (a' := ?_) #[true, true, true, true, true, true, true, true, true, true, true, true, true, true, false, true, true, false, true, true, false, true, true, false, true, true, true, true, false, false, false, false] rfl rfl (any_of HT_.out q7_1) (fun _ _ _ h => h) (Or.inl ⟨by rfl, ?_⟩) ?_ ?_
               rotate_left
               ·intro w'
                go_simp
                with_reducible rfl
               rotate_left
               ·simp only [Act.put, List.setIfInBounds_toArray, List.set_cons_zero, List.set_cons_succ, i64_w, i32_w]
                rfl
               refine take_ (i := 14) (N := some 102) (v := ?_) (a' := ?_) #[true, true, true, true, true, true, true, true, true, true, true, true, true, true, true, true, true, false, true, true, false, true, true, false, true, true, true, true, false, false, false, false] rfl rfl (take_ofW HT_.out HW_.out q7_1) (fun _ _ _ h => h) (Or.inl ⟨by rfl, ?_⟩) hHeld ?_ ?_
               rotate_left
               ·rintro w' ⟨s0, s1, s2, s3, s4, s5, s6, s7⟩
                go_simp
                with_reducible rfl
               rotate_left
               ·simp only [Act.put, List.setIfInBounds_toArray, List.set_cons_zero, List.set_cons_succ, i64_w, i32_w]
                rfl
               refine pure_ (i := 28) (N := some 16) (v := ?_) (a' := ?_) #[true, true, true, true, true, true, true, true, true, true, true, true, true, true, true, true, true, false, true, true, false, true, true, false, true, true, true, true, true, false, false, false] rfl rfl (any_of HT_.out q7_1) (fun _ _ _ h => h) (Or.inl ⟨by rfl, ?_⟩) ?_ ?_
               rotate_left
               ·intro w'
                go_simp
                with_reducible rfl
               rotate_left
               ·simp only [Act.put, List.setIfInBounds_toArray, List.set_cons_zero, List.set_cons_succ, i64_w, i32_w]
                rfl
               refine take_ (i := 17) (N := some 105) (v := ?_) (a' := ?_) #[true, true, true, true, true, true, true, true, true, true, true, true, true, true, true, true, true, true, true, true, false, true, true, false, true, true, true, true, true, false, false, false] rfl rfl (take_ofW HT_.out HW_.out q7_1) (fun _ _ _ h => h) (Or.inl ⟨by rfl, ?_⟩) hHeld ?_ ?_
               rotate_left
               ·rintro w' ⟨s0, s1, s2, s3, s4, s5, s6, s7⟩
                go_simp
                with_reducible rfl
               rotate_left
               ·simp only [Act.put, List.setIfInBounds_toArray, List.set_cons_zero, List.set_cons_succ, i64_w, i32_w]
                rfl
               refine pure_ (i := 29) (N := some 17) (v := ?_) (a' := ?_) #[true, true, true, true, true, true, true, true, true, true, true, true, true, true, true, true, true, true, true, true, false, true, true, false, true, true, true, true, true, true, false, false] rfl rfl (any_of HT_.out q7_1) (fun _ _ _ h => h) (Or.inl ⟨by rfl, ?_⟩) ?_ ?_
               rotate_left
               ·intro w'
                go_simp
                with_reducible rfl
               rotate_left
               ·simp only [Act.put, List.setIfInBounds_toArray, List.set_cons_zero, List.set_cons_succ, i64_w, i32_w]
                rfl
               refine take_ (i := 20) (N := some 108) (v := ?_) (a' := ?_) #[true, true, true, true, true, true, true, true, true, true, true, true, true, true, true, true, true, true, true, true, true, true, true, false, true, true, true, true, true, true, false, false] rfl rfl (take_ofW HT_.out HW_.out q7_1) (fun _ _ _ h => h) (Or.inl ⟨by rfl, ?_⟩) hHeld ?_ ?_
               rotate_left
               ·rintro w' ⟨s0, s1, s2, s3, s4, s5, s6, s7⟩
                go_simp
                with_reducible rfl
               rotate_left
               ·simp only [Act.put, List.setIfInBounds_toArray, List.set_cons_zero, List.set_cons_succ, i64_w, i32_w]
                rfl
               refine pure_ (i := 30) (N := some 18) (v := ?_) (a' := ?_) #[true, true, true, true, true, true, true, true, true, true, true, true, true, true, true, true, true, true, true, true, true, true, true, false, true, true, true, true, true, true, true, false] rfl rfl (any_of HT_.out q7_1) (fun _ _ _ h => h) (Or.inl ⟨by rfl, ?_⟩) ?_ ?_
               rotate_left
               ·intro w'
                go_simp
                with_reducible rfl
               rotate_left
               ·simp only [Act.put, List.setIfInBounds_toArray, List.set_cons_zero, List.set_cons_succ, i64_w, i32_w]
                rfl
               refine take_ (i := 23) (N := some 111) (v := ?_) (a' := ?_) #[true, true, true, true, true, true, true, true, true, true, true, true, true, true, true, true, true, true, true, true, true, true, true, true, true, true, true, true, true, true, true, false] rfl rfl (take_ofW HT_.out HW_.out q7_1) (fun _ _ _ h => h) (Or.inl ⟨by rfl, ?_⟩) hHeld ?_ ?_
               rotate_left
               ·rintro w' ⟨s0, s1, s2, s3, s4, s5, s6, s7⟩
                go_simp
                with_reducible rfl
               rotate_left
               ·simp only [Act.put, List.setIfInBounds_toArray, List.set_cons_zero, List.set_cons_succ, i64_w, i32_w]
                rfl
               refine pure_ (i := 31) (N := some 19) (v := ?_) (a' := ?_) #[true, true, true, true, true, true, true, true, true, true, true, true, true, true, true, true, true, true, true, true, true, true, true, true, true, true, true, true, true, true, true, true] rfl rfl (any_of HT_.out q7_1) (fun _ _ _ h => h) (Or.inl ⟨by rfl, ?_⟩) ?_ ?_
               rotate_left
               ·intro w'
                go_simp
                with_reducible rfl
               rotate_left
               ·simp only [Act.put, List.setIfInBounds_toArray, List.set_cons_zero, List.set_cons_succ, i64_w, i32_w]
                rfl
               refine done_ (done_of HT_.out q7_1) ?_
               try go_wp2_with (first | ((with_reducible refine gate_callee (f := 132) rfl ?_); refine goesL_ (some 112) rfl rfl Try.func132 q7_1 rfl #[] rfl q7_9 ?_; (with_reducible refine (batonref02_K.calls  t233 _ A45.out).mono ?_); rintro e w47 ⟨v234, rfl, ho0, hb⟩; refine ⟨_, rfl, ?_⟩; have n0_ := Aside0.mk (Kd.R_elder' q7_5 (Kd.R_base ho0) hb); have n1_ := Aside0.mk (Kd.R_lower (Kd.R_new' ho0 (Kd.R_lt q7_5)) (below_size q7_3)); have n2_ := Aside0.mk (below_step q7_3 hb); clear HO_5 HB; have HO_5 := n0_; have HO235 := n1_; have HB := n2_; clear n0_ n1_ n2_; (try clear hb); (try clear hb2); (try clear hk); (try clear hi); (try clear ho0)))
               go_loopg [12, 13, 14, 15, 16, 17, 18, 19, 21] k2 (fun kq v12 v13 v14 v15 v16 v17 v18 v19 v21 w' => ∃ (x12_3 : Int) (x13_3 : Int) (x14_3 : Int) (x15_3 : Int) (x16_3 : Int) (x17_3 : Int) (x18_3 : Int) (x19_3 : Int) (x21_3 : Int), v12 = .int .u32 x12_3 ∧ v13 = .int .u32 x13_3 ∧ v14 = .int .u32 x14_3 ∧ v15 = .int .u32 x15_3 ∧ v16 = .int .u32 x16_3 ∧ v17 = .int .u32 x17_3 ∧ v18 = .int .u32 x18_3 ∧ v19 = .int .u32 x19_3 ∧ v21 = .int .i64 x21_3 ∧ Aside0 (batonref02_Rounds.l2 kq l0 x5_2 x12_3 x13_3 x14_3 x15_3 x16_3 x17_3 x18_3 x19_3 t233 x21_3 = some r) ∧ Aside0 (kq ≤ k2) ∧ Aside0 (Kd.R (Kd.int .u32) 199 w' w.heap.size (fun k_ => some k_ ≠ (v234 : Value).ownBlock) u5 x5_2) ∧ Aside0 (Kd.R (Kd.int .u32) 199 w' w.heap.size (fun k_ => some k_ ≠ (u5 : Value).ownBlock) v234 t233) ∧ Aside0 (Below w.heap.size w w'))
               case atStart => exact ⟨(rd l0 0), (rd l0 1), (rd l0 2), (rd l0 3), (rd l0 4), (rd l0 5), (rd l0 6), (rd l0 7), (0), q7_4, q7_4, q7_4, q7_4, q7_4, q7_4, q7_4, q7_4, q7_4, H', ⟨Nat.le_refl _⟩, ⟨by (with_reducible repeat (first | apply Kd.R_alloc | apply Kd.R_drewN | apply Kd.R_drew)); exact Kd.R_mono HO_5.out (fun _ hk => hk.2)⟩, ⟨by (with_reducible repeat (first | apply Kd.R_alloc | apply Kd.R_drewN | apply Kd.R_drew)); exact Kd.R_mono HO235.out (fun _ hk => hk.2)⟩, ⟨by repeat (first | (with_reducible first | exact HB.out | apply below_alloc | apply pw_below_drewN | apply below_drew1) | exact HB.out)⟩⟩
               case round =>
                clear H'
                try clear c1
                try clear c2
                try clear p2
                try clear q2
                try clear hx2
                try clear qi2
                try clear c3
                try clear c4
                try clear p6
                try clear c13
                try clear c13b0
                try clear c15
                try clear c16
                try clear c18
                try clear c19
                try clear p22
                try clear q22
                try clear hx22
                try clear qi22
                try clear p23
                try clear q23
                try clear hx23
                try clear qi23
                try clear c27
                try clear c28
                try clear c30
                try clear c31
                try clear c32
                try clear c37
                try clear c37b0
                try clear c37b1
                try clear c38
                try clear c38b0
                try clear c38b1
                try clear c39
                try clear c39b0
                try clear c39b1
                try clear c40
                try clear c40b0
                try clear c40b1
                try clear c41
                try clear c41b0
                try clear c41b1
                try clear c42
                try clear c42b0
                try clear c42b1
                try clear c43
                try clear c43b0
                try clear c43b1
                try clear c44
                try clear c44b0
                try clear c44b1
                try clear hx225_0
                try clear hx226_0
                try clear hx227_0
                try clear hx228_0
                try clear hx229_0
                try clear hx230_0
                try clear hx231_0
                try clear hx232_0
                try clear p225
                try clear p226
                try clear p227
                try clear p228
                try clear p229
                try clear p230
                try clear p231
                try clear p232
                try clear q225
                try clear q226
                try clear q227
                try clear q228
                try clear q229
                try clear q230
                try clear q231
                try clear q232
                obtain ⟨x12_3, x13_3, x14_3, x15_3, x16_3, x17_3, x18_3, x19_3, x21_3, rfl, rfl, rfl, rfl, rfl, rfl, rfl, rfl, rfl, HA, HK3, HO_5, HO_20, HB⟩ := hrel
                cases gk with
                | zero => exact absurd HA.out (by simp [batonref02_Rounds.l2])
                | succ k3 =>
                 have H := HA.out
                 clear HA
                 simp only [batonref02_Rounds.l2] at H
                 by_cases c48 : x21_3 < 64
                 ·rw [if_pos c48] at H
                  have c48b0 : decide (x21_3 < 64) = true := decide_eq_true c48
                  clear c48
                  replace H := Option.bind_eq_some_iff.mp H
                  obtain ⟨t236, A490, H⟩ := H
                  replace H : (if 0 ≤ x21_3 then (if x21_3 < (t233.length : Int) then (if x21_3 < (x5_2.length : Int) then ((batonref02_rots.f k3 x12_3 2 13 22).bind fun t239 => (batonref02_Rounds.l2 k3 l0 x5_2 ((((((((((x19_3 + t236) % 4294967296) + (Go.bits .xor .u32 (Go.bits .and .u32 x16_3 x17_3) (Go.bits .and .u32 ((4294967295 - x16_3) % 4294967296) x18_3))) % 4294967296) + (rd t233 x21_3)) % 4294967296) + (rd x5_2 x21_3)) % 4294967296) + ((t239 + (Go.bits .xor .u32 (Go.bits .xor .u32 (Go.bits .and .u32 x12_3 x13_3) (Go.bits .and .u32 x12_3 x14_3)) (Go.bits .and .u32 x13_3 x14_3))) % 4294967296)) % 4294967296) x12_3 x13_3 x14_3 ((x15_3 + ((((((((x19_3 + t236) % 4294967296) + (Go.bits .xor .u32 (Go.bits .and .u32 x16_3 x17_3) (Go.bits .and .u32 ((4294967295 - x16_3) % 4294967296) x18_3))) % 4294967296) + (rd t233 x21_3)) % 4294967296) + (rd x5_2 x21_3)) % 4294967296)) % 4294967296) x16_3 x17_3 x18_3 t233 (wrap64 (x21_3 + 1)))) else (none)) else (none)) else (none)) = some r := H
                  have A49 := Aside0.mk A490
                  clear A490
                  by_cases c50 : 0 ≤ x21_3
                  ·rw [if_pos c50] at H
                   have c50b0 : decide (0 ≤ x21_3) = true := decide_eq_true c50
                   clear c50
                   by_cases c51 : x21_3 < (t233.length : Int)
                   ·rw [if_pos c51] at H
                    have c51b0 : decide (x21_3 < (t233.length : Int)) = true := decide_eq_true c51
                    clear c51
                    by_cases c52 : x21_3 < (x5_2.length : Int)
                    ·rw [if_pos c52] at H
                     have c52b0 : decide (x21_3 < (x5_2.length : Int)) = true := decide_eq_true c52
                     clear c52
                     replace H := Option.bind_eq_some_iff.mp H
                     obtain ⟨t239, A530, H⟩ := H
                     replace H : (batonref02_Rounds.l2 k3 l0 x5_2 ((((((((((x19_3 + t236) % 4294967296) + (Go.bits .xor .u32 (Go.bits .and .u32 x16_3 x17_3) (Go.bits .and .u32 ((4294967295 - x16_3) % 4294967296) x18_3))) % 4294967296) + (rd t233 x21_3)) % 4294967296) + (rd x5_2 x21_3)) % 4294967296) + ((t239 + (Go.bits .xor .u32 (Go.bits .xor .u32 (Go.bits .and .u32 x12_3 x13_3) (Go.bits .and .u32 x12_3 x14_3)) (Go.bits .and .u32 x13_3 x14_3))) % 4294967296)) % 4294967296) x12_3 x13_3 x14_3 ((x15_3 + ((((((((x19_3 + t236) % 4294967296) + (Go.bits .xor .u32 (Go.bits .and .u32 x16_3 x17_3) (Go.bits .and .u32 ((4294967295 - x16_3) % 4294967296) x18_3))) % 4294967296) + (rd t233 x21_3)) % 4294967296) + (rd x5_2 x21_3)) % 4294967296)) % 4294967296) x16_3 x17_3 x18_3 t233 (wrap64 (x21_3 + 1))) = some r := H
                     have A53 := Aside0.mk A530
                     clear A530
                     have H' := Aside0.mk H
                     clear H
                     try go_wp2
                     have n0_ := Aside0.mk (Kd.R_drew HO_5.out)
                     have n1_ := Aside0.mk (Kd.R_drew HO_20.out)
                     have n2_ := Aside0.mk (below_drew1 HB.out)
                     clear HO_5
                     clear HO_20
                     clear HB
                     have HO_5 := n0_
                     have HO_20 := n1_
                     have HB := n2_
                     clear n0_ n1_ n2_
                     obtain ⟨Ao55, co55, eo55⟩ := Kd.R_slice HO_20.out
                     (first | subst eo55 | (injection eo55 with f1_ f2_ f3_; have f4_ := f1_.symm; have f5_ := f3_.symm; clear f1_ f2_ f3_; subst f4_; subst f5_))
                     have p237 : 0 ≤ (x21_3 : Int) := of_decide_eq_true q7_2
                     have q237 : x21_3 < (t233.length : Int) := of_decide_eq_true q7_2
                     obtain ⟨ad237, e237, hx237_0⟩ := Kd.at_int (Kd.R_reads' HO_20.out).2.2 x21_3 p237 q237
                     cases e237
                     replace p237 := eq_true p237
                     replace q237 := eq_true q237
                     obtain ⟨Ao56, co56, eo56⟩ := Kd.R_slice HO_5.out
                     (first | subst eo56 | (injection eo56 with f1_ f2_ f3_; have f4_ := f1_.symm; have f5_ := f3_.symm; clear f1_ f2_ f3_; subst f4_; subst f5_))
                     have p238 : 0 ≤ (x21_3 : Int) := of_decide_eq_true q7_2
                     have q238 : x21_3 < (x5_2.length : Int) := of_decide_eq_true q7_2
                     obtain ⟨ad238, e238, hx238_0⟩ := Kd.at_int (Kd.R_reads' HO_5.out).2.2 x21_3 p238 q238
                     cases e238
                     replace p238 := eq_true p238
                     replace q238 := eq_true q238
                     refine start_ (n := 24) (S := fun w' => w'.cell? (ad237.add (x21_3).toNat) = some (.int .u32 (rd t233 x21_3)) ∧ w'.cell? (ad238.add (x21_3).toNat) = some (.int .u32 (rd x5_2 x21_3))) (ds := []) #[false, false, false, false, false, false, false, false, false, false, false, false, false, false, false, false, false, false, false, false, false, false, false, false] q7_1 rfl rfl ⟨hx237_0, hx238_0⟩ (fun hHeld => ?_); refine with_tabW batonref02_Rounds.tab18 batonref02_Rounds.bits18 (fun HT_ HW_ => ?_)
                     generalize wr.drew = w54 at HO_5 HO_20 HB hx237_0 hx238_0 hHeld ⊢
                     refine pure_ (i := 0) (N := some 117) (v := ?_) (a' := ?_) #[true, false, false, false, false, false, false, false, false, false, false, false, false, false, false, false, false, false, false, false, false, false, false, false] rfl rfl (any_of HT_.out q7_1) (fun _ _ _ h => h) (Or.inl ⟨by rfl, ?_⟩) ?_ ?_
                     rotate_left
                     ·intro w'
                      go_simp
                      with_reducible rfl
                     rotate_left
                     ·simp only [Act.put, List.setIfInBounds_toArray, List.set_cons_zero, List.set_cons_succ, i64_w, i32_w]
                      rfl
                     refine pure_ (i := 1) (N := some 118) (v := ?_) (a' := ?_) #[true, true, false, false, false, false, false, false, false, false, false, false, false, false, false, false, false, false, false, false, false, false, false, false] rfl rfl (any_of HT_.out q7_1) (fun _ _ _ h => h) (Or.inl ⟨by rfl, ?_⟩) ?_ ?_
                     rotate_left
                     ·intro w'
                      go_simp
                      with_reducible rfl
                     rotate_left
                     ·simp only [Act.put, List.setIfInBounds_toArray, List.set_cons_zero, List.set_cons_succ, i64_w, i32_w]
                      rfl
                     refine pure_ (i := 4) (N := some 121) (v := ?_) (a' := ?_) #[true, true, false, false, true, false, false, false, false, false, false, false, false, false, false, false, false, false, false, false, false, false, false, false] rfl rfl (any_of HT_.out q7_1) (fun _ _ _ h => h) (Or.inl ⟨by rfl, ?_⟩) ?_ ?_
                     rotate_left
                     ·intro w'
                      go_simp
                      with_reducible rfl
                     rotate_left
                     ·simp only [Act.put, List.setIfInBounds_toArray, List.set_cons_zero, List.set_cons_succ, i64_w, i32_w]
                      rfl
                     refine pure_ (i := 5) (N := some 122) (v := ?_) (a' := ?_) #[true, true, false, false, true, true, false, false, false, false, false, false, false, false, false, false, false, false, false, false, false, false, false, false] rfl rfl (any_of HT_.out q7_1) (fun _ _ _ h => h) (Or.inl ⟨by rfl, ?_⟩) ?_ ?_
                     rotate_left
                     ·intro w'
                      go_simp
                      with_reducible rfl
                     rotate_left
                     ·simp only [Act.put, List.setIfInBounds_toArray, List.set_cons_zero, List.set_cons_succ, i64_w, i32_w]
                      rfl
                     refine pure_ (i := 6) (N := some 123) (v := ?_) (a' := ?_) #[true, true, false, false, true, true, true, false, false, false, false, false, false, false, false, false, false, false, false, false, false, false, false, false] rfl rfl (any_of HT_.out q7_1) (fun _ _ _ h => h) (Or.inl ⟨by rfl, ?_⟩) ?_ ?_
                     rotate_left
                     ·intro w'
                      go_simp
                      with_reducible rfl
                     rotate_left
                     ·simp only [Act.put, List.setIfInBounds_toArray, List.set_cons_zero, List.set_cons_succ, i64_w, i32_w]
                      rfl
                     refine pure_ (i := 7) (N := some 124) (v := ?_) (a' := ?_) #[true, true, false, false, true, true, true, true, false, false, false, false, false, false, false, false, false, false, false, false, false, false, false, false] rfl rfl (any_of HT_.out q7_1) (fun _ _ _ h => h) (Or.inl ⟨by rfl, ?_⟩) ?_ ?_
                     rotate_left
                     ·intro w'
                      go_simp
                      with_reducible rfl
                     rotate_left
                     ·simp only [Act.put, List.setIfInBounds_toArray, List.set_cons_zero, List.set_cons_succ, i64_w, i32_w]
                      rfl
                     refine pure_ (i := 8) (N := some 125) (v := ?_) (a' := ?_) #[true, true, false, false, true, true, true, true, true, false, false, false, false, false, false, false, false, false, false, false, false, false, false, false] rfl rfl (any_of HT_.out q7_1) (fun _ _ _ h => h) (Or.inl ⟨by rfl, ?_⟩) ?_ ?_
                     rotate_left
                     ·intro w'
                      go_simp
                      with_reducible rfl
                     rotate_left
                     ·simp only [Act.put, List.setIfInBounds_toArray, List.set_cons_zero, List.set_cons_succ, i64_w, i32_w]
                      rfl
                     refine pure_ (i := 9) (N := some 126) (v := ?_) (a' := ?_) #[true, true, false, false, true, true, true, true, true, true, false, false, false, false, false, false, false, false, false, false, false, false, false, false] rfl rfl (any_of HT_.out q7_1) (fun _ _ _ h => h) (Or.inl ⟨by rfl, ?_⟩) ?_ ?_
                     rotate_left
                     ·intro w'
                      go_simp
                      with_reducible rfl
                     rotate_left
                     ·simp only [Act.put, List.setIfInBounds_toArray, List.set_cons_zero, List.set_cons_succ, i64_w, i32_w]
                      rfl
                     refine pure_ (i := 10) (N := some 127) (v := ?_) (a' := ?_) #[true, true, false, false, true, true, true, true, true, true, true, false, false, false, false, false, false, false, false, false, false, false, false, false] rfl rfl (any_of HT_.out q7_1) (fun _ _ _ h => h) (Or.inl ⟨by rfl, ?_⟩) ?_ ?_
                     rotate_left
                     ·intro w'
                      go_simp
                      with_reducible rfl
                     rotate_left
                     ·simp only [Act.put, List.setIfInBounds_toArray, List.set_cons_zero, List.set_cons_succ, i64_w, i32_w]
                      rfl
                     refine pure_ (i := 11) (N := some 128) (v := ?_) (a' := ?_) #[true, true, false, false, true, true, true, true, true, true, true, true, false, false, false, false, false, false, false, false, false, false, false, false] rfl rfl (any_of HT_.out q7_1) (fun _ _ _ h => h) (Or.inl ⟨by rfl, ?_⟩) ?_ ?_
                     rotate_left
                     ·intro w'
                      go_simp
                      with_reducible rfl
                     rotate_left
                     ·simp only [Act.put, List.setIfInBounds_toArray, List.set_cons_zero, List.set_cons_succ, i64_w, i32_w]
                      rfl
                     refine pure_ (i := 13) (N := some 130) (v := ?_) (a' := ?_) #[true, true, false, false, true, true, true, true, true, true, true, true, false, true, false, false, false, false, false, false, false, false, false, false] rfl rfl (any_of HT_.out q7_1) (fun _ _ _ h => h) (Or.inl ⟨by rfl, ?_⟩) ?_ ?_
                     rotate_left
                     ·intro w'
                      go_simp
                      with_reducible rfl
                     rotate_left
                     ·simp only [Act.put, List.setIfInBounds_toArray, List.set_cons_zero, List.set_cons_succ, i64_w, i32_w]
                      rfl
                     refine pure_ (i := 14) (N := some 131) (v := ?_) (a' := ?_) #[true, true, false, false, true, true, true, true, true, true, true, true, false, true, true, false, false, false, false, false, false, false, false, false] rfl rfl (any_of HT_.out q7_1) (fun _ _ _ h => h) (Or.inl ⟨by rfl, ?_⟩) ?_ ?_
                     rotate_left
                     ·intro w'
                      go_simp
                      with_reducible rfl
                     rotate_left
                     ·simp only [Act.put, List.setIfInBounds_toArray, List.set_cons_zero, List.set_cons_succ, i64_w, i32_w]
                      rfl
                     refine pure_ (i := 15) (N := some 132) (v := ?_) (a' := ?_) #[true, true, false, false, true, true, true, true, true, true, true, true, false, true, true, true, false, false, false, false, false, false, false, false] rfl rfl (any_of HT_.out q7_1) (fun _ _ _ h => h) (Or.inl ⟨by rfl, ?_⟩) ?_ ?_
                     rotate_left
                     ·intro w'
                      go_simp
                      with_reducible rfl
                     rotate_left
                     ·simp only [Act.put, List.setIfInBounds_toArray, List.set_cons_zero, List.set_cons_succ, i64_w, i32_w]
                      rfl
                     refine pure_ (i := 18) (N := some 135) (v := ?_) (a' := ?_) #[true, true, false, false, true, true, true, true, true, true, true, true, false, true, true, true, false, false, true, false, false, false, false, false] rfl rfl (any_of HT_.out q7_1) (fun _ _ _ h => h) (Or.inl ⟨by rfl, ?_⟩) ?_ ?_
                     rotate_left
                     ·intro w'
                      go_simp
                      with_reducible rfl
                     rotate_left
                     ·simp only [Act.put, List.setIfInBounds_toArray, List.set_cons_zero, List.set_cons_succ, i64_w, i32_w]
                      rfl
                     refine pure_ (i := 19) (N := some 136) (v := ?_) (a' := ?_) #[true, true, false, false, true, true, true, true, true, true, true, true, false, true, true, true, false, false, true, true, false, false, false, false] rfl rfl (any_of HT_.out q7_1) (fun _ _ _ h => h) (Or.inl ⟨by rfl, ?_⟩) ?_ ?_
                     rotate_left
                     ·intro w'
                      go_simp
                      with_reducible rfl
                     rotate_left
                     ·simp only [Act.put, List.setIfInBounds_toArray, List.set_cons_zero, List.set_cons_succ, i64_w, i32_w]
                      rfl
                     refine pure_ (i := 20) (N := some 137) (v := ?_) (a' := ?_) #[true, true, false, false, true, true, true, true, true, true, true, true, false, true, true, true, false, false, true, true, true, false, false, false] rfl rfl (any_of HT_.out q7_1) (fun _ _ _ h => h) (Or.inl ⟨by rfl, ?_⟩) ?_ ?_
                     rotate_left
                     ·intro w'
                      go_simp
                      with_reducible rfl
                     rotate_left
                     ·simp only [Act.put, List.setIfInBounds_toArray, List.set_cons_zero, List.set_cons_succ, i64_w, i32_w]
                      rfl
                     refine take_ (i := 16) (N := some 133) (v := ?_) (a' := ?_) #[true, true, false, false, true, true, true, true, true, true, true, true, false, true, true, true, true, false, true, true, true, false, false, false] rfl rfl (take_ofW HT_.out HW_.out q7_1) (fun _ _ _ h => h) (Or.inl ⟨by rfl, ?_⟩) hHeld ?_ ?_
                     rotate_left
                     ·rintro w' ⟨s0, s1⟩
                      go_simp
                      with_reducible rfl
                     rotate_left
                     ·simp only [Act.put, List.setIfInBounds_toArray, List.set_cons_zero, List.set_cons_succ, i64_w, i32_w]
                      rfl
                     refine take_ (i := 21) (N := some 138) (v := ?_) (a' := ?_) #[true, true, false, false, true, true, true, true, true, true, true, true, false, true, true, true, true, false, true, true, true, true, false, false] rfl rfl (take_ofW HT_.out HW_.out q7_1) (fun _ _ _ h => h) (Or.inl ⟨by rfl, ?_⟩) hHeld ?_ ?_
                     rotate_left
                     ·rintro w' ⟨s0, s1⟩
                      go_simp
                      with_reducible rfl
                     rotate_left
                     ·simp only [Act.put, List.setIfInBounds_toArray, List.set_cons_zero, List.set_cons_succ, i64_w, i32_w]
                      rfl
                     refine one_ (i := 2) (N := some 119) #[true, true, true, false, true, true, true, true, true, true, true, true, false, true, true, true, true, false, true, true, true, true, false, false] rfl rfl (one_of HT_.out q7_1) (by decide) (fun K hK => ?_)
                     refine goes_ Try.func133 q7_1 rfl #[.int .u32 x16_3, .int .i64 6, .int .i64 11, .int .i64 25] (by rfl) rfl rfl q7_9 ?_
                     with_reducible refine (batonref02_rots.calls k3 x16_3 6 11 25 t236 _ A49.out).mono ?_
                     rintro e w' ⟨rfl, ⟨nd, rfl⟩⟩
                     refine ⟨_, rfl, ?_⟩
                     refine hK.out _ _ ⟨hHeld.1, hHeld.2⟩ (fun hHeld => ?_)
                     clear hK K
                     refine norm_ (a' := ?_) ?_ ?_
                     rotate_left
                     ·show Act.put _ (some 119) _ = _
                      simp only [Act.put, List.setIfInBounds_toArray, List.set_cons_zero, List.set_cons_succ, i64_w, i32_w]
                      rfl
                     refine pure_ (i := 3) (N := some 120) (v := ?_) (a' := ?_) #[true, true, true, true, true, true, true, true, true, true, true, true, false, true, true, true, true, false, true, true, true, true, false, false] rfl rfl (any_of HT_.out q7_1) (fun _ _ _ h => h) (Or.inl ⟨by rfl, ?_⟩) ?_ ?_
                     rotate_left
                     ·intro w'
                      go_simp
                      with_reducible rfl
                     rotate_left
                     ·simp only [Act.put, List.setIfInBounds_toArray, List.set_cons_zero, List.set_cons_succ, i64_w, i32_w]
                      rfl
                     refine pure_ (i := 12) (N := some 129) (v := ?_) (a' := ?_) #[true, true, true, true, true, true, true, true, true, true, true, true, true, true, true, true, true, false, true, true, true, true, false, false] rfl rfl (any_of HT_.out q7_1) (fun _ _ _ h => h) (Or.inl ⟨by rfl, ?_⟩) ?_ ?_
                     rotate_left
                     ·intro w'
                      go_simp
                      with_reducible rfl
                     rotate_left
                     ·simp only [Act.put, List.setIfInBounds_toArray, List.set_cons_zero, List.set_cons_succ, i64_w, i32_w]
                      rfl
                     refine pure_ (i := 17) (N := some 134) (v := ?_) (a' := ?_) #[true, true, true, true, true, true, true, true, true, true, true, true, true, true, true, true, true, true, true, true, true, true, false, false] rfl rfl (any_of HT_.out q7_1) (fun _ _ _ h => h) (Or.inl ⟨by rfl, ?_⟩) ?_ ?_
                     rotate_left
                     ·intro w'
                      go_simp
                      with_reducible rfl
                     rotate_left
                     ·simp only [Act.put, List.setIfInBounds_toArray, List.set_cons_zero, List.set_cons_succ, i64_w, i32_w]
                      rfl
                     refine pure_ (i := 22) (N := some 139) (v := ?_) (a' := ?_) #[true, true, true, true, true, true, true, true, true, true, true, true, true, true, true, true, true, true, true, true, true, true, true, false] rfl rfl (any_of HT_.out q7_1) (fun _ _ _ h => h) (Or.inl ⟨by rfl, ?_⟩) ?_ ?_
                     rotate_left
                     ·intro w'
                      go_simp
                      with_reducible rfl
                     rotate_left
                     ·simp only [Act.put, List.setIfInBounds_toArray, List.set_cons_zero, List.set_cons_succ, i64_w, i32_w]
                      rfl
                     refine pure_ (i := 23) (N := some 22) (v := ?_) (a' := ?_) #[true, true, true, true, true, true, true, true, true, true, true, true, true, true, true, true, true, true, true, true, true, true, true, true] rfl rfl (any_of HT_.out q7_1) (fun _ _ _ h => h) (Or.inl ⟨by rfl, ?_⟩) ?_ ?_
                     rotate_left
                     ·intro w'
                      go_simp
                      with_reducible rfl
                     rotate_left
                     ·simp only [Act.put, List.setIfInBounds_toArray, List.set_cons_zero, List.set_cons_succ, i64_w, i32_w]
                      rfl
                     refine done_ (done_of HT_.out q7_1) ?_
                     try go_wp2_with (first | ((with_reducible refine gate_callee (f := 133) rfl ?_); refine goesL_ (some 141) rfl rfl Try.func133 q7_1 rfl #[.int .u32 x12_3, .int .i64 2, .int .i64 13, .int .i64 22] rfl q7_9 ?_; (with_reducible refine (batonref02_rots.calls k3 x12_3 2 13 22 t239 _ A53.out).mono ?_); rintro e w' ⟨rfl, ⟨nd, rfl⟩⟩; refine ⟨_, rfl, ?_⟩))
                     go_roundg k3
                     case measure => have := HK1.out; have := HK2.out; have := HK3.out; omega
                     case rel => exact ⟨((((((((((x19_3 + t236) % 4294967296) + (Go.bits .xor .u32 (Go.bits .and .u32 x16_3 x17_3) (Go.bits .and .u32 ((4294967295 - x16_3) % 4294967296) x18_3))) % 4294967296) + (rd t233 x21_3)) % 4294967296) + (rd x5_2 x21_3)) % 4294967296) + ((t239 + (Go.bits .xor .u32 (Go.bits .xor .u32 (Go.bits .and .u32 x12_3 x13_3) (Go.bits .and .u32 x12_3 x14_3)) (Go.bits .and .u32 x13_3 x14_3))) % 4294967296)) % 4294967296), (x12_3), (x13_3), (x14_3), ((x15_3 + ((((((((x19_3 + t236) % 4294967296) + (Go.bits .xor .u32 (Go.bits .and .u32 x16_3 x17_3) (Go.bits .and .u32 ((4294967295 - x16_3) % 4294967296) x18_3))) % 4294967296) + (rd t233 x21_3)) % 4294967296) + (rd x5_2 x21_3)) % 4294967296)) % 4294967296), (x16_3), (x17_3), (x18_3), (wrap64 (x21_3 + 1)), q7_4, q7_4, q7_4, q7_4, q7_4, q7_4, q7_4, q7_4, q7_4, H', ⟨by have := HK1.out; have := HK2.out; have := HK3.out; omega⟩, ⟨by (with_reducible repeat (first | apply Kd.R_alloc | apply Kd.R_drewN | apply Kd.R_drew)); exact HO_5.out⟩, ⟨by (with_reducible repeat (first | apply Kd.R_alloc | apply Kd.R_drewN | apply Kd.R_drew)); exact HO_20.out⟩, ⟨by repeat (first | (with_reducible first | exact HB.out | apply below_alloc | apply pw_below_drewN | apply below_drew1) | exact HB.out)⟩⟩
                    ·rw [if_neg c52] at H
                     exact absurd H q7_10
                   ·rw [if_neg c51] at H
                    exact absurd H q7_10
                  ·rw [if_neg c50] at H
                   exact absurd H q7_10
                 ·rw [if_neg c48] at H
                  have c48b0 : decide (x21_3 < 64) = false := decide_eq_false c48
                  clear c48
                  by_cases c57 : 0 < (l0.length : Int)
                  ·rw [if_pos c57] at H
                   have c57b0 : decide (0 < (l0.length : Int)) = true := decide_eq_true c57
                   have c57b1 : decide (0 < l0.length) = true := decide_eq_true q7_8
                   clear c57
                   by_cases c58 : 1 < (l0.length : Int)
                   ·rw [if_pos c58] at H
                    have c58b0 : decide (1 < (l0.length : Int)) = true := decide_eq_true c58
                    have c58b1 : decide (1 < l0.length) = true := decide_eq_true q7_8
                    clear c58
                    by_cases c59 : 2 < (l0.length : Int)
                    ·rw [if_pos c59] at H
                     have c59b0 : decide (2 < (l0.length : Int)) = true := decide_eq_true c59
                     have c59b1 : decide (2 < l0.length) = true := decide_eq_true q7_8
                     clear c59
                     by_cases c60 : 3 < (l0.length : Int)
                     ·rw [if_pos c60] at H
                      have c60b0 : decide (3 < (l0.length : Int)) = true := decide_eq_true c60
                      have c60b1 : decide (3 < l0.length) = true := decide_eq_true q7_8
                      clear c60
                      by_cases c61 : 4 < (l0.length : Int)
                      ·rw [if_pos c61] at H
                       have c61b0 : decide (4 < (l0.length : Int)) = true := decide_eq_true c61
                       have c61b1 : decide (4 < l0.length) = true := decide_eq_true q7_8
                       clear c61
                       by_cases c62 : 5 < (l0.length : Int)
                       ·rw [if_pos c62] at H
                        have c62b0 : decide (5 < (l0.length : Int)) = true := decide_eq_true c62
                        have c62b1 : decide (5 < l0.length) = true := decide_eq_true q7_8
                        clear c62
                        by_cases c63 : 6 < (l0.length : Int)
                        ·rw [if_pos c63] at H
                         have c63b0 : decide (6 < (l0.length : Int)) = true := decide_eq_true c63
                         have c63b1 : decide (6 < l0.length) = true := decide_eq_true q7_8
                         clear c63
                         by_cases c64 : 7 < (l0.length : Int)
                         ·rw [if_pos c64] at H
                          have c64b0 : decide (7 < (l0.length : Int)) = true := decide_eq_true c64
                          have c64b1 : decide (7 < l0.length) = true := decide_eq_true q7_8
                          clear c64
                          obtain ⟨y248, hy248⟩ : ∃ y_ : List Int, y_ = (([((rd l0 0) + x12_3) % 4294967296, ((rd l0 1) + x13_3) % 4294967296, ((rd l0 2) + x14_3) % 4294967296, ((rd l0 3) + x15_3) % 4294967296, ((rd l0 4) + x16_3) % 4294967296, ((rd l0 5) + x17_3) % 4294967296, ((rd l0 6) + x18_3) % 4294967296, ((rd l0 7) + x19_3) % 4294967296] : List Int)) := ⟨_, rfl⟩
                          replace H : (some y248) = some r := by first | (rw [hy248]; with_reducible exact H) | (have H2_ := (Option.bind_some _ _).symm.trans H; rw [hy248]; with_reducible exact H2_) | (have H2_ := (Option.bind_some _ _).symm.trans H; with_reducible exact H2_) | with_reducible exact H | (rw [hy248]; exact H) | exact H
                          have Ny248 := Aside0.mk hy248
                          clear hy248
                          obtain rfl := Option.some.inj H
                          try go_wp2
                          have n0_ := Aside0.mk (Kd.R_drew HO_5.out)
                          have n1_ := Aside0.mk (Kd.R_drew HO_20.out)
                          have n2_ := Aside0.mk (below_drew1 HB.out)
                          clear HO_5
                          clear HO_20
                          clear HB
                          have HO_5 := n0_
                          have HO_20 := n1_
                          have HB := n2_
                          clear n0_ n1_ n2_
                          have p240 : 0 ≤ (0 : Int) := q7_8
                          have q240 : 0 < (l0.length : Int) := of_decide_eq_true q7_2
                          obtain ⟨ad240, e240, hx240_0⟩ := Kd.at_int HR0.out 0 p240 q240
                          have hw240_0 := hx240_0
                          (try rw [show ((0 : Int)).toNat = 0 from rfl] at hw240_0)
                          (try rw [show 0 * 1 = 0 from rfl] at hw240_0)
                          (try rw [Addr.add_zero'] at hw240_0)
                          obtain rfl : ad225 = ad240 := (by injection e240)
                          have qi240 : (0 < l0.length) = True := eq_true q7_8
                          (try rw [show ((0 : Int)).toNat = 0 from rfl] at hx240_0)
                          (try rw [Addr.add_zero'] at hx240_0)
                          replace hx240_0 := (HB.out.cell (World.block_lt_of_cell? w _ hx240_0)).trans hx240_0
                          replace p240 := eq_true p240
                          replace q240 := eq_true q240
                          have p241 : 0 ≤ (1 : Int) := q7_8
                          have q241 : 1 < (l0.length : Int) := of_decide_eq_true q7_2
                          obtain ⟨ad241, e241, hx241_0⟩ := Kd.at_int HR0.out 1 p241 q241
                          have hw241_0 := hx241_0
                          (try rw [show ((1 : Int)).toNat = 1 from rfl] at hw241_0)
                          (try rw [show 1 * 1 = 1 from rfl] at hw241_0)
                          (try simp only [Nat.reduceMul, Nat.reduceEqDiff, Go.Addr.add, ↓reduceIte] at hw241_0)
                          obtain rfl : ad225 = ad241 := (by injection e241)
                          (try simp only [show (1 : Int).toNat = 1 from rfl, Nat.reduceMul, Nat.reduceEqDiff, Go.Addr.add, ↓reduceIte] at hx241_0)
                          have qi241 : (1 < l0.length) = True := eq_true q7_8
                          (try rw [show ((1 : Int)).toNat = 1 from rfl] at hx241_0)
                          replace hx241_0 := (HB.out.cell (World.block_lt_of_cell? w _ hx241_0)).trans hx241_0
                          replace p241 := eq_true p241
                          replace q241 := eq_true q241
                          have p242 : 0 ≤ (2 : Int) := q7_8
                          have q242 : 2 < (l0.length : Int) := of_decide_eq_true q7_2
                          obtain ⟨ad242, e242, hx242_0⟩ := Kd.at_int HR0.out 2 p242 q242
                          have hw242_0 := hx242_0
                          (try rw [show ((2 : Int)).toNat = 2 from rfl] at hw242_0)
                          (try rw [show 2 * 1 = 2 from rfl] at hw242_0)
                          (try simp only [Nat.reduceMul, Nat.reduceEqDiff, Go.Addr.add, ↓reduceIte] at hw242_0)
                          obtain rfl : ad225 = ad242 := (by injection e242)
                          (try simp only [show (2 : Int).toNat = 2 from rfl, Nat.reduceMul, Nat.reduceEqDiff, Go.Addr.add, ↓reduceIte] at hx242_0)
                          have qi242 : (2 < l0.length) = True := eq_true q7_8
                          (try rw [show ((2 : Int)).toNat = 2 from rfl] at hx242_0)
                          replace hx242_0 := (HB.out.cell (World.block_lt_of_cell? w _ hx242_0)).trans hx242_0
                          replace p242 := eq_true p242
                          replace q242 := eq_true q242
                          have p243 : 0 ≤ (3 : Int) := q7_8
                          have q243 : 3 < (l0.length : Int) := of_decide_eq_true q7_2
                          obtain ⟨ad243, e243, hx243_0⟩ := Kd.at_int HR0.out 3 p243 q243
                          have hw243_0 := hx243_0
                          (try rw [show ((3 : Int)).toNat = 3 from rfl] at hw243_0)
                          (try rw [show 3 * 1 = 3 from rfl] at hw243_0)
                          (try simp only [Nat.reduceMul, Nat.reduceEqDiff, Go.Addr.add, ↓reduceIte] at hw243_0)
                          obtain rfl : ad225 = ad243 := (by injection e243)
                          (try simp only [show (3 : Int).toNat = 3 from rfl, Nat.reduceMul, Nat.reduceEqDiff, Go.Addr.add, ↓reduceIte] at hx243_0)
                          have qi243 : (3 < l0.length) = True := eq_true q7_8
                          (try rw [show ((3 : Int)).toNat = 3 from rfl] at hx243_0)
                          replace hx243_0 := (HB.out.cell (World.block_lt_of_cell? w _ hx243_0)).trans hx243_0
                          replace p243 := eq_true p243
                          replace q243 := eq_true q243
                          have p244 : 0 ≤ (4 : Int) := q7_8
                          have q244 : 4 < (l0.length : Int) := of_decide_eq_true q7_2
                          obtain ⟨ad244, e244, hx244_0⟩ := Kd.at_int HR0.out 4 p244 q244
                          have hw244_0 := hx244_0
                          (try rw [show ((4 : Int)).toNat = 4 from rfl] at hw244_0)
                          (try rw [show 4 * 1 = 4 from rfl] at hw244_0)
                          (try simp only [Nat.reduceMul, Nat.reduceEqDiff, Go.Addr.add, ↓reduceIte] at hw244_0)
                          obtain rfl : ad225 = ad244 := (by injection e244)
                          (try simp only [show (4 : Int).toNat = 4 from rfl, Nat.reduceMul, Nat.reduceEqDiff, Go.Addr.add, ↓reduceIte] at hx244_0)
                          have qi244 : (4 < l0.length) = True := eq_true q7_8
                          (try rw [show ((4 : Int)).toNat = 4 from rfl] at hx244_0)
                          replace hx244_0 := (HB.out.cell (World.block_lt_of_cell? w _ hx244_0)).trans hx244_0
                          replace p244 := eq_true p244
                          replace q244 := eq_true q244
                          have p245 : 0 ≤ (5 : Int) := q7_8
                          have q245 : 5 < (l0.length : Int) := of_decide_eq_true q7_2
                          obtain ⟨ad245, e245, hx245_0⟩ := Kd.at_int HR0.out 5 p245 q245
                          have hw245_0 := hx245_0
                          (try rw [show ((5 : Int)).toNat = 5 from rfl] at hw245_0)
                          (try rw [show 5 * 1 = 5 from rfl] at hw245_0)
                          (try simp only [Nat.reduceMul, Nat.reduceEqDiff, Go.Addr.add, ↓reduceIte] at hw245_0)
                          obtain rfl : ad225 = ad245 := (by injection e245)
                          (try simp only [show (5 : Int).toNat = 5 from rfl, Nat.reduceMul, Nat.reduceEqDiff, Go.Addr.add, ↓reduceIte] at hx245_0)
                          have qi245 : (5 < l0.length) = True := eq_true q7_8
                          (try rw [show ((5 : Int)).toNat = 5 from rfl] at hx245_0)
                          replace hx245_0 := (HB.out.cell (World.block_lt_of_cell? w _ hx245_0)).trans hx245_0
                          replace p245 := eq_true p245
                          replace q245 := eq_true q245
                          have p246 : 0 ≤ (6 : Int) := q7_8
                          have q246 : 6 < (l0.length : Int) := of_decide_eq_true q7_2
                          obtain ⟨ad246, e246, hx246_0⟩ := Kd.at_int HR0.out 6 p246 q246
                          have hw246_0 := hx246_0
                          (try rw [show ((6 : Int)).toNat = 6 from rfl] at hw246_0)
                          (try rw [show 6 * 1 = 6 from rfl] at hw246_0)
                          (try simp only [Nat.reduceMul, Nat.reduceEqDiff, Go.Addr.add, ↓reduceIte] at hw246_0)
                          obtain rfl : ad225 = ad246 := (by injection e246)
                          (try simp only [show (6 : Int).toNat = 6 from rfl, Nat.reduceMul, Nat.reduceEqDiff, Go.Addr.add, ↓reduceIte] at hx246_0)
                          have qi246 : (6 < l0.length) = True := eq_true q7_8
                          (try rw [show ((6 : Int)).toNat = 6 from rfl] at hx246_0)
                          replace hx246_0 := (HB.out.cell (World.block_lt_of_cell? w _ hx246_0)).trans hx246_0
                          replace p246 := eq_true p246
                          replace q246 := eq_true q246
                          have p247 : 0 ≤ (7 : Int) := q7_8
                          have q247 : 7 < (l0.length : Int) := of_decide_eq_true q7_2
                          obtain ⟨ad247, e247, hx247_0⟩ := Kd.at_int HR0.out 7 p247 q247
                          have hw247_0 := hx247_0
                          (try rw [show ((7 : Int)).toNat = 7 from rfl] at hw247_0)
                          (try rw [show 7 * 1 = 7 from rfl] at hw247_0)
                          (try simp only [Nat.reduceMul, Nat.reduceEqDiff, Go.Addr.add, ↓reduceIte] at hw247_0)
                          obtain rfl : ad225 = ad247 := (by injection e247)
                          (try simp only [show (7 : Int).toNat = 7 from rfl, Nat.reduceMul, Nat.reduceEqDiff, Go.Addr.add, ↓reduceIte] at hx247_0)
                          have qi247 : (7 < l0.length) = True := eq_true q7_8
                          (try rw [show ((7 : Int)).toNat = 7 from rfl] at hx247_0)
                          replace hx247_0 := (HB.out.cell (World.block_lt_of_cell? w _ hx247_0)).trans hx247_0
                          replace p247 := eq_true p247
                          replace q247 := eq_true q247
                          refine start_ (n := 42) (S := fun w' => w'.cell? ad225 = some (.int .u32 (rd l0 0)) ∧ w'.cell? ⟨ad225.block, ad225.off + 1, none⟩ = some (.int .u32 (rd l0 1)) ∧ w'.cell? ⟨ad225.block, ad225.off + 2, none⟩ = some (.int .u32 (rd l0 2)) ∧ w'.cell? ⟨ad225.block, ad225.off + 3, none⟩ = some (.int .u32 (rd l0 3)) ∧ w'.cell? ⟨ad225.block, ad225.off + 4, none⟩ = some (.int .u32 (rd l0 4)) ∧ w'.cell? ⟨ad225.block, ad225.off + 5, none⟩ = some (.int .u32 (rd l0 5)) ∧ w'.cell? ⟨ad225.block, ad225.off + 6, none⟩ = some (.int .u32 (rd l0 6)) ∧ w'.cell? ⟨ad225.block, ad225.off + 7, none⟩ = some (.int .u32 (rd l0 7))) (ds := []) #[false, false, false, false, false, false, false, false, false, false, false, false, false, false, false, false, false, false, false, false, false, false, false, false, false, false, false, false, false, false, false, false, false, false, false, false, false, false, false, false, false, false] q7_1 rfl rfl ⟨((HB.out.cell (World.block_lt_of_cell? w _ hw240_0)).trans hw240_0), ((HB.out.cell (World.block_lt_of_cell? w _ hw241_0)).trans hw241_0), ((HB.out.cell (World.block_lt_of_cell? w _ hw242_0)).trans hw242_0), ((HB.out.cell (World.block_lt_of_cell? w _ hw243_0)).trans hw243_0), ((HB.out.cell (World.block_lt_of_cell? w _ hw244_0)).trans hw244_0), ((HB.out.cell (World.block_lt_of_cell? w _ hw245_0)).trans hw245_0), ((HB.out.cell (World.block_lt_of_cell? w _ hw246_0)).trans hw246_0), ((HB.out.cell (World.block_lt_of_cell? w _ hw247_0)).trans hw247_0)⟩ (fun hHeld => ?_); refine with_tabW batonref02_Rounds.tab21 batonref02_Rounds.bits21 (fun HT_ HW_ => ?_)
                          generalize wr.drew = w65 at HO_5 HO_20 HB hx240_0 hx241_0 hx242_0 hx243_0 hx244_0 hx245_0 hx246_0 hx247_0 hHeld ⊢
                          refine pure_ (i := 0) (N := some 166) (v := ?_) (a' := ?_) #[true, false, false, false, false, false, false, false, false, false, false, false, false, false, false, false, false, false, false, false, false, false, false, false, false, false, false, false, false, false, false, false, false, false, false, false, false, false, false, false, false, false] rfl rfl (any_of HT_.out q7_1) (fun _ _ _ h => h) (Or.inl ⟨by rfl, ?_⟩) ?_ ?_
                          rotate_left
                          ·intro w'
                           go_simp
                           with_reducible rfl
                          rotate_left
                          ·simp only [Act.put, List.setIfInBounds_toArray, List.set_cons_zero, List.set_cons_succ, i64_w, i32_w]
                           rfl
                          refine pure_ (i := 1) (N := some 167) (v := ?_) (a' := ?_) #[true, true, false, false, false, false, false, false, false, false, false, false, false, false, false, false, false, false, false, false, false, false, false, false, false, false, false, false, false, false, false, false, false, false, false, false, false, false, false, false, false, false] rfl rfl (any_of HT_.out q7_1) (fun _ _ _ h => h) (Or.inl ⟨by rfl, ?_⟩) ?_ ?_
                          rotate_left
                          ·intro w'
                           go_simp
                           with_reducible rfl
                          rotate_left
                          ·simp only [Act.put, List.setIfInBounds_toArray, List.set_cons_zero, List.set_cons_succ, i64_w, i32_w]
                           rfl
                          refine pure_ (i := 3) (N := some 169) (v := ?_) (a' := ?_) #[true, true, false, true, false, false, false, false, false, false, false, false, false, false, false, false, false, false, false, false, false, false, false, false, false, false, false, false, false, false, false, false, false, false, false, false, false, false, false, false, false, false] rfl rfl (any_of HT_.out q7_1) (fun _ _ _ h => h) (Or.inl ⟨by rfl, ?_⟩) ?_ ?_
                          rotate_left
                          ·intro w'
                           go_simp
                           with_reducible rfl
                          rotate_left
                          ·simp only [Act.put, List.setIfInBounds_toArray, List.set_cons_zero, List.set_cons_succ, i64_w, i32_w]
                           rfl
                          refine pure_ (i := 5) (N := some 171) (v := ?_) (a' := ?_) #[true, true, false, true, false, true, false, false, false, false, false, false, false, false, false, false, false, false, false, false, false, false, false, false, false, false, false, false, false, false, false, false, false, false, false, false, false, false, false, false, false, false] rfl rfl (any_of HT_.out q7_1) (fun _ _ _ h => h) (Or.inl ⟨by rfl, ?_⟩) ?_ ?_
                          rotate_left
                          ·intro w'
                           go_simp
                           with_reducible rfl
                          rotate_left
                          ·simp only [Act.put, List.setIfInBounds_toArray, List.set_cons_zero, List.set_cons_succ, i64_w, i32_w]
                           rfl
                          refine pure_ (i := 6) (N := some 172) (v := ?_) (a' := ?_) #[true, true, false, true, false, true, true, false, false, false, false, false, false, false, false, false, false, false, false, false, false, false, false, false, false, false, false, false, false, false, false, false, false, false, false, false, false, false, false, false, false, false] rfl rfl (any_of HT_.out q7_1) (fun _ _ _ h => h) (Or.inl ⟨by rfl, ?_⟩) ?_ ?_
                          rotate_left
                          ·intro w'
                           go_simp
                           with_reducible rfl
                          rotate_left
                          ·simp only [Act.put, List.setIfInBounds_toArray, List.set_cons_zero, List.set_cons_succ, i64_w, i32_w]
                           rfl
                          refine pure_ (i := 8) (N := some 174) (v := ?_) (a' := ?_) #[true, true, false, true, false, true, true, false, true, false, false, false, false, false, false, false, false, false, false, false, false, false, false, false, false, false, false, false, false, false, false, false, false, false, false, false, false, false, false, false, false, false] rfl rfl (any_of HT_.out q7_1) (fun _ _ _ h => h) (Or.inl ⟨by rfl, ?_⟩) ?_ ?_
                          rotate_left
                          ·intro w'
                           go_simp
                           with_reducible rfl
                          rotate_left
                          ·simp only [Act.put, List.setIfInBounds_toArray, List.set_cons_zero, List.set_cons_succ, i64_w, i32_w]
                           rfl
                          refine pure_ (i := 10) (N := some 176) (v := ?_) (a' := ?_) #[true, true, false, true, false, true, true, false, true, false, true, false, false, false, false, false, false, false, false, false, false, false, false, false, false, false, false, false, false, false, false, false, false, false, false, false, false, false, false, false, false, false] rfl rfl (any_of HT_.out q7_1) (fun _ _ _ h => h) (Or.inl ⟨by rfl, ?_⟩) ?_ ?_
                          rotate_left
                          ·intro w'
                           go_simp
                           with_reducible rfl
                          rotate_left
                          ·simp only [Act.put, List.setIfInBounds_toArray, List.set_cons_zero, List.set_cons_succ, i64_w, i32_w]
                           rfl
                          refine pure_ (i := 11) (N := some 177) (v := ?_) (a' := ?_) #[true, true, false, true, false, true, true, false, true, false, true, true, false, false, false, false, false, false, false, false, false, false, false, false, false, false, false, false, false, false, false, false, false, false, false, false, false, false, false, false, false, false] rfl rfl (any_of HT_.out q7_1) (fun _ _ _ h => h) (Or.inl ⟨by rfl, ?_⟩) ?_ ?_
                          rotate_left
                          ·intro w'
                           go_simp
                           with_reducible rfl
                          rotate_left
                          ·simp only [Act.put, List.setIfInBounds_toArray, List.set_cons_zero, List.set_cons_succ, i64_w, i32_w]
                           rfl
                          refine pure_ (i := 13) (N := some 179) (v := ?_) (a' := ?_) #[true, true, false, true, false, true, true, false, true, false, true, true, false, true, false, false, false, false, false, false, false, false, false, false, false, false, false, false, false, false, false, false, false, false, false, false, false, false, false, false, false, false] rfl rfl (any_of HT_.out q7_1) (fun _ _ _ h => h) (Or.inl ⟨by rfl, ?_⟩) ?_ ?_
                          rotate_left
                          ·intro w'
                           go_simp
                           with_reducible rfl
                          rotate_left
                          ·simp only [Act.put, List.setIfInBounds_toArray, List.set_cons_zero, List.set_cons_succ, i64_w, i32_w]
                           rfl
                          refine pure_ (i := 15) (N := some 181) (v := ?_) (a' := ?_) #[true, true, false, true, false, true, true, false, true, false, true, true, false, true, false, true, false, false, false, false, false, false, false, false, false, false, false, false, false, false, false, false, false, false, false, false, false, false, false, false, false, false] rfl rfl (any_of HT_.out q7_1) (fun _ _ _ h => h) (Or.inl ⟨by rfl, ?_⟩) ?_ ?_
                          rotate_left
                          ·intro w'
                           go_simp
                           with_reducible rfl
                          rotate_left
                          ·simp only [Act.put, List.setIfInBounds_toArray, List.set_cons_zero, List.set_cons_succ, i64_w, i32_w]
                           rfl
                          refine pure_ (i := 16) (N := some 182) (v := ?_) (a' := ?_) #[true, true, false, true, false, true, true, false, true, false, true, true, false, true, false, true, true, false, false, false, false, false, false, false, false, false, false, false, false, false, false, false, false, false, false, false, false, false, false, false, false, false] rfl rfl (any_of HT_.out q7_1) (fun _ _ _ h => h) (Or.inl ⟨by rfl, ?_⟩) ?_ ?_
                          rotate_left
                          ·intro w'
                           go_simp
                           with_reducible rfl
                          rotate_left
                          ·simp only [Act.put, List.setIfInBounds_toArray, List.set_cons_zero, List.set_cons_succ, i64_w, i32_w]
                           rfl
                          refine pure_ (i := 18) (N := some 184) (v := ?_) (a' := ?_) #[true, true, false, true, false, true, true, false, true, false, true, true, false, true, false, true, true, false, true, false, false, false, false, false, false, false, false, false, false, false, false, false, false, false, false, false, false, false, false, false, false, false] rfl rfl (any_of HT_.out q7_1) (fun _ _ _ h => h) (Or.inl ⟨by rfl, ?_⟩) ?_ ?_
                          rotate_left
                          ·intro w'
                           go_simp
                           with_reducible rfl
                          rotate_left
                          ·simp only [Act.put, List.setIfInBounds_toArray, List.set_cons_zero, List.set_cons_succ, i64_w, i32_w]
                           rfl
                          refine pure_ (i := 20) (N := some 186) (v := ?_) (a' := ?_) #[true, true, false, true, false, true, true, false, true, false, true, true, false, true, false, true, true, false, true, false, true, false, false, false, false, false, false, false, false, false, false, false, false, false, false, false, false, false, false, false, false, false] rfl rfl (any_of HT_.out q7_1) (fun _ _ _ h => h) (Or.inl ⟨by rfl, ?_⟩) ?_ ?_
                          rotate_left
                          ·intro w'
                           go_simp
                           with_reducible rfl
                          rotate_left
                          ·simp only [Act.put, List.setIfInBounds_toArray, List.set_cons_zero, List.set_cons_succ, i64_w, i32_w]
                           rfl
                          refine pure_ (i := 21) (N := some 187) (v := ?_) (a' := ?_) #[true, true, false, true, false, true, true, false, true, false, true, true, false, true, false, true, true, false, true, false, true, true, false, false, false, false, false, false, false, false, false, false, false, false, false, false, false, false, false, false, false, false] rfl rfl (any_of HT_.out q7_1) (fun _ _ _ h => h) (Or.inl ⟨by rfl, ?_⟩) ?_ ?_
                          rotate_left
                          ·intro w'
                           go_simp
                           with_reducible rfl
                          rotate_left
                          ·simp only [Act.put, List.setIfInBounds_toArray, List.set_cons_zero, List.set_cons_succ, i64_w, i32_w]
                           rfl
                          refine pure_ (i := 23) (N := some 189) (v := ?_) (a' := ?_) #[true, true, false, true, false, true, true, false, true, false, true, true, false, true, false, true, true, false, true, false, true, true, false, true, false, false, false, false, false, false, false, false, false, false, false, false, false, false, false, false, false, false] rfl rfl (any_of HT_.out q7_1) (fun _ _ _ h => h) (Or.inl ⟨by rfl, ?_⟩) ?_ ?_
                          rotate_left
                          ·intro w'
                           go_simp
                           with_reducible rfl
                          rotate_left
                          ·simp only [Act.put, List.setIfInBounds_toArray, List.set_cons_zero, List.set_cons_succ, i64_w, i32_w]
                           rfl
                          refine pure_ (i := 25) (N := some 191) (v := ?_) (a' := ?_) #[true, true, false, true, false, true, true, false, true, false, true, true, false, true, false, true, true, false, true, false, true, true, false, true, false, true, false, false, false, false, false, false, false, false, false, false, false, false, false, false, false, false] rfl rfl (any_of HT_.out q7_1) (fun _ _ _ h => h) (Or.inl ⟨by rfl, ?_⟩) ?_ ?_
                          rotate_left
                          ·intro w'
                           go_simp
                           with_reducible rfl
                          rotate_left
                          ·simp only [Act.put, List.setIfInBounds_toArray, List.set_cons_zero, List.set_cons_succ, i64_w, i32_w]
                           rfl
                          refine pure_ (i := 26) (N := some 192) (v := ?_) (a' := ?_) #[true, true, false, true, false, true, true, false, true, false, true, true, false, true, false, true, true, false, true, false, true, true, false, true, false, true, true, false, false, false, false, false, false, false, false, false, false, false, false, false, false, false] rfl rfl (any_of HT_.out q7_1) (fun _ _ _ h => h) (Or.inl ⟨by rfl, ?_⟩) ?_ ?_
                          rotate_left
                          ·intro w'
                           go_simp
                           with_reducible rfl
                          rotate_left
                          ·simp only [Act.put, List.setIfInBounds_toArray, List.set_cons_zero, List.set_cons_succ, i64_w, i32_w]
                           rfl
                          refine pure_ (i := 28) (N := some 194) (v := ?_) (a' := ?_) #[true, true, false, true, false, true, true, false, true, false, true, true, false, true, false, true, true, false, true, false, true, true, false, true, false, true, true, false, true, false, false, false, false, false, false, false, false, false, false, false, false, false] rfl rfl (any_of HT_.out q7_1) (fun _ _ _ h => h) (Or.inl ⟨by rfl, ?_⟩) ?_ ?_
                          rotate_left
                          ·intro w'
                           go_simp
                           with_reducible rfl
                          rotate_left
                          ·simp only [Act.put, List.setIfInBounds_toArray, List.set_cons_zero, List.set_cons_succ, i64_w, i32_w]
                           rfl
                          refine pure_ (i := 30) (N := some 196) (v := ?_) (a' := ?_) #[true, true, false, true, false, true, true, false, true, false, true, true, false, true, false, true, true, false, true, false, true, true, false, true, false, true, true, false, true, false, true, false, false, false, false, false, false, false, false, false, false, false] rfl rfl (any_of HT_.out q7_1) (fun _ _ _ h => h) (Or.inl ⟨by rfl, ?_⟩) ?_ ?_
                          rotate_left
                          ·intro w'
                           go_simp
                           with_reducible rfl
                          rotate_left
                          ·simp only [Act.put, List.setIfInBounds_toArray, List.set_cons_zero, List.set_cons_succ, i64_w, i32_w]
                           rfl
                          refine pure_ (i := 31) (N := some 197) (v := ?_) (a' := ?_) #[true, true, false, true, false, true, true, false, true, false, true, true, false, true, false, true, true, false, true, false, true, true, false, true, false, true, true, false, true, false, true, true, false, false, false, false, false, false, false, false, false, false] rfl rfl (any_of HT_.out q7_1) (fun _ _ _ h => h) (Or.inl ⟨by rfl, ?_⟩) ?_ ?_
                          rotate_left
                          ·intro w'
                           go_simp
                           with_reducible rfl
                          rotate_left
                          ·simp only [Act.put, List.setIfInBounds_toArray, List.set_cons_zero, List.set_cons_succ, i64_w, i32_w]
                           rfl
                          refine pure_ (i := 33) (N := some 199) (v := ?_) (a' := ?_) #[true, true, false, true, false, true, true, false, true, false, true, true, false, true, false, true, true, false, true, false, true, true, false, true, false, true, true, false, true, false, true, true, false, true, false, false, false, false, false, false, false, false] rfl rfl (any_of HT_.out q7_1) (fun _ _ _ h => h) (Or.inl ⟨by rfl, ?_⟩) ?_ ?_
                          rotate_left
                          ·intro w'
                           go_simp
                           with_reducible rfl
                          rotate_left
                          ·simp only [Act.put, List.setIfInBounds_toArray, List.set_cons_zero, List.set_cons_succ, i64_w, i32_w]
                           rfl
                          refine pure_ (i := 35) (N := some 201) (v := ?_) (a' := ?_) #[true, true, false, true, false, true, true, false, true, false, true, true, false, true, false, true, true, false, true, false, true, true, false, true, false, true, true, false, true, false, true, true, false, true, false, true, false, false, false, false, false, false] rfl rfl (any_of HT_.out q7_1) (fun _ _ _ h => h) (Or.inl ⟨by rfl, ?_⟩) ?_ ?_
                          rotate_left
                          ·intro w'
                           go_simp
                           with_reducible rfl
                          rotate_left
                          ·simp only [Act.put, List.setIfInBounds_toArray, List.set_cons_zero, List.set_cons_succ, i64_w, i32_w]
                           rfl
                          refine pure_ (i := 36) (N := some 202) (v := ?_) (a' := ?_) #[true, true, false, true, false, true, true, false, true, false, true, true, false, true, false, true, true, false, true, false, true, true, false, true, false, true, true, false, true, false, true, true, false, true, false, true, true, false, false, false, false, false] rfl rfl (any_of HT_.out q7_1) (fun _ _ _ h => h) (Or.inl ⟨by rfl, ?_⟩) ?_ ?_
                          rotate_left
                          ·intro w'
                           go_simp
                           with_reducible rfl
                          rotate_left
                          ·simp only [Act.put, List.setIfInBounds_toArray, List.set_cons_zero, List.set_cons_succ, i64_w, i32_w]
                           rfl
                          refine pure_ (i := 38) (N := some 204) (v := ?_) (a' := ?_) #[true, true, false, true, false, true, true, false, true, false, true, true, false, true, false, true, true, false, true, false, true, true, false, true, false, true, true, false, true, false, true, true, false, true, false, true, true, false, true, false, false, false] rfl rfl (any_of HT_.out q7_1) (fun _ _ _ h => h) (Or.inl ⟨by rfl, ?_⟩) ?_ ?_
                          rotate_left
                          ·intro w'
                           go_simp
                           with_reducible rfl
                          rotate_left
                          ·simp only [Act.put, List.setIfInBounds_toArray, List.set_cons_zero, List.set_cons_succ, i64_w, i32_w]
                           rfl
                          refine take_ (i := 2) (N := some 168) (v := ?_) (a' := ?_) #[true, true, true, true, false, true, true, false, true, false, true, true, false, true, false, true, true, false, true, false, true, true, false, true, false, true, true, false, true, false, true, true, false, true, false, true, true, false, true, false, false, false] rfl rfl (take_ofW HT_.out HW_.out q7_1) (fun _ _ _ h => h) (Or.inl ⟨by rfl, ?_⟩) hHeld ?_ ?_
                          rotate_left
                          ·rintro w' ⟨s0, s1, s2, s3, s4, s5, s6, s7⟩
                           go_simp
                           with_reducible rfl
                          rotate_left
                          ·simp only [Act.put, List.setIfInBounds_toArray, List.set_cons_zero, List.set_cons_succ, i64_w, i32_w]
                           rfl
                          refine pure_ (i := 4) (N := some 170) (v := ?_) (a' := ?_) #[true, true, true, true, true, true, true, false, true, false, true, true, false, true, false, true, true, false, true, false, true, true, false, true, false, true, true, false, true, false, true, true, false, true, false, true, true, false, true, false, false, false] rfl rfl (any_of HT_.out q7_1) (fun _ _ _ h => h) (Or.inl ⟨by rfl, ?_⟩) ?_ ?_
                          rotate_left
                          ·intro w'
                           go_simp
                           with_reducible rfl
                          rotate_left
                          ·simp only [Act.put, List.setIfInBounds_toArray, List.set_cons_zero, List.set_cons_succ, i64_w, i32_w]
                           rfl
                          refine take_ (i := 7) (N := some 173) (v := ?_) (a' := ?_) #[true, true, true, true, true, true, true, true, true, false, true, true, false, true, false, true, true, false, true, false, true, true, false, true, false, true, true, false, true, false, true, true, false, true, false, true, true, false, true, false, false, false] rfl rfl (take_ofW HT_.out HW_.out q7_1) (fun _ _ _ h => h) (Or.inl ⟨by rfl, ?_⟩) hHeld ?_ ?_
                          rotate_left
                          ·rintro w' ⟨s0, s1, s2, s3, s4, s5, s6, s7⟩
                           go_simp
                           with_reducible rfl
                          rotate_left
                          ·simp only [Act.put, List.setIfInBounds_toArray, List.set_cons_zero, List.set_cons_succ, i64_w, i32_w]
                           rfl
                          refine pure_ (i := 9) (N := some 175) (v := ?_) (a' := ?_) #[true, true, true, true, true, true, true, true, true, true, true, true, false, true, false, true, true, false, true, false, true, true, false, true, false, true, true, false, true, false, true, true, false, true, false, true, true, false, true, false, false, false] rfl rfl (any_of HT_.out q7_1) (fun _ _ _ h => h) (Or.inl ⟨by rfl, ?_⟩) ?_ ?_
                          rotate_left
                          ·intro w'
                           go_simp
                           with_reducible rfl
                          rotate_left
                          ·simp only [Act.put, List.setIfInBounds_toArray, List.set_cons_zero, List.set_cons_succ, i64_w, i32_w]
                           rfl
                          refine take_ (i := 12) (N := some 178) (v := ?_) (a' := ?_) #[true, true, true, true, true, true, true, true, true, true, true, true, true, true, false, true, true, false, true, false, true, true, false, true, false, true, true, false, true, false, true, true, false, true, false, true, true, false, true, false, false, false] rfl rfl (take_ofW HT_.out HW_.out q7_1) (fun _ _ _ h => h) (Or.inl ⟨by rfl, ?_⟩) hHeld ?_ ?_
                          rotate_left
                          ·rintro w' ⟨s0, s1, s2, s3, s4, s5, s6, s7⟩
                           go_simp
                           with_reducible rfl
                          rotate_left
                          ·simp only [Act.put, List.setIfInBounds_toArray, List.set_cons_zero, List.set_cons_succ, i64_w, i32_w]
                           rfl
                          refine pure_ (i := 14) (N := some 180) (v := ?_) (a' := ?_) #[true, true, true, true, true, true, true, true, true, true, true, true, true, true, true, true, true, false, true, false, true, true, false, true, false, true, true, false, true, false, true, true, false, true, false, true, true, false, true, false, false, false] rfl rfl (any_of HT_.out q7_1) (fun _ _ _ h => h) (Or.inl ⟨by rfl, ?_⟩) ?_ ?_
                          rotate_left
                          ·intro w'
                           go_simp
                           with_reducible rfl
                          rotate_left
                          ·simp only [Act.put, List.setIfInBounds_toArray, List.set_cons_zero, List.set_cons_succ, i64_w, i32_w]
                           rfl
                          refine take_ (i := 17) (N := some 183) (v := ?_) (a' := ?_) #[true, true, true, true, true, true, true, true, true, true, true, true, true, true, true, true, true, true, true, false, true, true, false, true, false, true, true, false, true, false, true, true, false, true, false, true, true, false, true, false, false, false] rfl rfl (take_ofW HT_.out HW_.out q7_1) (fun _ _ _ h => h) (Or.inl ⟨by rfl, ?_⟩) hHeld ?_ ?_
                          rotate_left
                          ·rintro w' ⟨s0, s1, s2, s3, s4, s5, s6, s7⟩
                           go_simp
                           with_reducible rfl
                          rotate_left
                          ·simp only [Act.put, List.setIfInBounds_toArray, List.set_cons_zero, List.set_cons_succ, i64_w, i32_w]
                           rfl
                          refine pure_ (i := 19) (N := some 185) (v := ?_) (a' := ?_) #[true, true, true, true, true, true, true, true, true, true, true, true, true, true, true, true, true, true, true, true, true, true, false, true, false, true, true, false, true, false, true, true, false, true, false, true, true, false, true, false, false, false] rfl rfl (any_of HT_.out q7_1) (fun _ _ _ h => h) (Or.inl ⟨by rfl, ?_⟩) ?_ ?_
                          rotate_left
                          ·intro w'
                           go_simp
                           with_reducible rfl
                          rotate_left
                          ·simp only [Act.put, List.setIfInBounds_toArray, List.set_cons_zero, List.set_cons_succ, i64_w, i32_w]
                           rfl
                          refine take_ (i := 22) (N := some 188) (v := ?_) (a' := ?_) #[true, true, true, true, true, true, true, true, true, true, true, true, true, true, true, true, true, true, true, true, true, true, true, true, false, true, true, false, true, false, true, true, false, true, false, true, true, false, true, false, false, false] rfl rfl (take_ofW HT_.out HW_.out q7_1) (fun _ _ _ h => h) (Or.inl ⟨by rfl, ?_⟩) hHeld ?_ ?_
                          rotate_left
                          ·rintro w' ⟨s0, s1, s2, s3, s4, s5, s6, s7⟩
                           go_simp
                           with_reducible rfl
                          rotate_left
                          ·simp only [Act.put, List.setIfInBounds_toArray, List.set_cons_zero, List.set_cons_succ, i64_w, i32_w]
                           rfl
                          refine pure_ (i := 24) (N := some 190) (v := ?_) (a' := ?_) #[true, true, true, true, true, true, true, true, true, true, true, true, true, true, true, true, true, true, true, true, true, true, true, true, true, true, true, false, true, false, true, true, false, true, false, true, true, false, true, false, false, false] rfl rfl (any_of HT_.out q7_1) (fun _ _ _ h => h) (Or.inl ⟨by rfl, ?_⟩) ?_ ?_
                          rotate_left
                          ·intro w'
                           go_simp
                           with_reducible rfl
                          rotate_left
                          ·simp only [Act.put, List.setIfInBounds_toArray, List.set_cons_zero, List.set_cons_succ, i64_w, i32_w]
                           rfl
                          refine take_ (i := 27) (N := some 193) (v := ?_) (a' := ?_) #[true, true, true, true, true, true, true, true, true, true, true, true, true, true, true, true, true, true, true, true, true, true, true, true, true, true, true, true, true, false, true, true, false, true, false, true, true, false, true, false, false, false] rfl rfl (take_ofW HT_.out HW_.out q7_1) (fun _ _ _ h => h) (Or.inl ⟨by rfl, ?_⟩) hHeld ?_ ?_
                          rotate_left
                          ·rintro w' ⟨s0, s1, s2, s3, s4, s5, s6, s7⟩
                           go_simp
                           with_reducible rfl
                          rotate_left
                          ·simp only [Act.put, List.setIfInBounds_toArray, List.set_cons_zero, List.set_cons_succ, i64_w, i32_w]
                           rfl
                          refine pure_ (i := 29) (N := some 195) (v := ?_) (a' := ?_) #[true, true, true, true, true, true, true, true, true, true, true, true, true, true, true, true, true, true, true, true, true, true, true, true, true, true, true, true, true, true, true, true, false, true, false, true, true, false, true, false, false, false] rfl rfl (any_of HT_.out q7_1) (fun _ _ _ h => h) (Or.inl ⟨by rfl, ?_⟩) ?_ ?_
                          rotate_left
                          ·intro w'
                           go_simp
                           with_reducible rfl
                          rotate_left
                          ·simp only [Act.put, List.setIfInBounds_toArray, List.set_cons_zero, List.set_cons_succ, i64_w, i32_w]
                           rfl
                          refine take_ (i := 32) (N := some 198) (v := ?_) (a' := ?_) #[true, true, true, true, true, true, true, true, true, true, true, true, true, true, true, true, true, true, true, true, true, true, true, true, true, true, true, true, true, true, true, true, true, true, false, true, true, false, true, false, false, false] rfl rfl (take_ofW HT_.out HW_.out q7_1) (fun _ _ _ h => h) (Or.inl ⟨by rfl, ?_⟩) hHeld ?_ ?_
                          rotate_left
                          ·rintro w' ⟨s0, s1, s2, s3, s4, s5, s6, s7⟩
                           go_simp
                           with_reducible rfl
                          rotate_left
                          ·simp only [Act.put, List.setIfInBounds_toArray, List.set_cons_zero, List.set_cons_succ, i64_w, i32_w]
                           rfl
                          refine pure_ (i := 34) (N := some 200) (v := ?_) (a' := ?_) #[true, true, true, true, true, true, true, true, true, true, true, true, true, true, true, true, true, true, true, true, true, true, true, true, true, true, true, true, true, true, true, true, true, true, true, true, true, false, true, false, false, false] rfl rfl (any_of HT_.out q7_1) (fun _ _ _ h => h) (Or.inl ⟨by rfl, ?_⟩) ?_ ?_
                          rotate_left
                          ·intro w'
                           go_simp
                           with_reducible rfl
                          rotate_left
                          ·simp only [Act.put, List.setIfInBounds_toArray, List.set_cons_zero, List.set_cons_succ, i64_w, i32_w]
                           rfl
                          refine take_ (i := 37) (N := some 203) (v := ?_) (a' := ?_) #[true, true, true, true, true, true, true, true, true, true, true, true, true, true, true, true, true, true, true, true, true, true, true, true, true, true, true, true, true, true, true, true, true, true, true, true, true, true, true, false, false, false] rfl rfl (take_ofW HT_.out HW_.out q7_1) (fun _ _ _ h => h) (Or.inl ⟨by rfl, ?_⟩) hHeld ?_ ?_
                          rotate_left
                          ·rintro w' ⟨s0, s1, s2, s3, s4, s5, s6, s7⟩
                           go_simp
                           with_reducible rfl
                          rotate_left
                          ·simp only [Act.put, List.setIfInBounds_toArray, List.set_cons_zero, List.set_cons_succ, i64_w, i32_w]
                           rfl
                          refine pure_ (i := 39) (N := some 205) (v := ?_) (a' := ?_) #[true, true, true, true, true, true, true, true, true, true, true, true, true, true, true, true, true, true, true, true, true, true, true, true, true, true, true, true, true, true, true, true, true, true, true, true, true, true, true, true, false, false] rfl rfl (any_of HT_.out q7_1) (fun _ _ _ h => h) (Or.inl ⟨by rfl, ?_⟩) ?_ ?_
                          rotate_left
                          ·intro w'
                           go_simp
                           with_reducible rfl
                          rotate_left
                          ·simp only [Act.put, List.setIfInBounds_toArray, List.set_cons_zero, List.set_cons_succ, i64_w, i32_w]
                           rfl
                          refine one_ (i := 40) (N := some 206) #[true, true, true, true, true, true, true, true, true, true, true, true, true, true, true, true, true, true, true, true, true, true, true, true, true, true, true, true, true, true, true, true, true, true, true, true, true, true, true, true, true, false] rfl rfl (one_of HT_.out q7_1) (by decide) (fun K hK => ?_)
                          refine Kd.R_lit_step (Kd.int .u32) _ 199 ?hg (N := 206) ?hd (xs := ([((rd l0 0) + x12_3) % 4294967296, ((rd l0 1) + x13_3) % 4294967296, ((rd l0 2) + x14_3) % 4294967296, ((rd l0 3) + x15_3) % 4294967296, ((rd l0 4) + x16_3) % 4294967296, ((rd l0 5) + x17_3) % 4294967296, ((rd l0 6) + x18_3) % 4294967296, ((rd l0 7) + x19_3) % 4294967296] : List Int)) (inner := [.int .u32 (((rd l0 0) + x12_3) % 4294967296), .int .u32 (((rd l0 1) + x13_3) % 4294967296), .int .u32 (((rd l0 2) + x14_3) % 4294967296), .int .u32 (((rd l0 3) + x15_3) % 4294967296), .int .u32 (((rd l0 4) + x16_3) % 4294967296), .int .u32 (((rd l0 5) + x17_3) % 4294967296), .int .u32 (((rd l0 6) + x18_3) % 4294967296), .int .u32 (((rd l0 7) + x19_3) % 4294967296)]) (ok := fun _ => True) (okp := fun _ => True) ?hr ?hp (fun _ hk => hk) trivial (Below.refl _ _) (Nat.le_refl _) q7_10 ?_; (case hd => rfl); (case hg => rfl); (case hr => first | (go_simp; done) | (go_simp; rfl)); (case hp => exact (Reps.one (show Kd.M (Kd.int .u32) _ _ _ (((rd l0 0) + x12_3) % 4294967296) [.int .u32 (((rd l0 0) + x12_3) % 4294967296)] from rfl) (Reps.one (show Kd.M (Kd.int .u32) _ _ _ (((rd l0 1) + x13_3) % 4294967296) [.int .u32 (((rd l0 1) + x13_3) % 4294967296)] from rfl) (Reps.one (show Kd.M (Kd.int .u32) _ _ _ (((rd l0 2) + x14_3) % 4294967296) [.int .u32 (((rd l0 2) + x14_3) % 4294967296)] from rfl) (Reps.one (show Kd.M (Kd.int .u32) _ _ _ (((rd l0 3) + x15_3) % 4294967296) [.int .u32 (((rd l0 3) + x15_3) % 4294967296)] from rfl) (Reps.one (show Kd.M (Kd.int .u32) _ _ _ (((rd l0 4) + x16_3) % 4294967296) [.int .u32 (((rd l0 4) + x16_3) % 4294967296)] from rfl) (Reps.one (show Kd.M (Kd.int .u32) _ _ _ (((rd l0 5) + x17_3) % 4294967296) [.int .u32 (((rd l0 5) + x17_3) % 4294967296)] from rfl) (Reps.one (show Kd.M (Kd.int .u32) _ _ _ (((rd l0 6) + x18_3) % 4294967296) [.int .u32 (((rd l0 6) + x18_3) % 4294967296)] from rfl) (Reps.one (show Kd.M (Kd.int .u32) _ _ _ (((rd l0 7) + x19_3) % 4294967296) [.int .u32 (((rd l0 7) + x19_3) % 4294967296)] from rfl) (Reps.none _ _))))))))))
                          intro v249 w66 ho67 hb hg_ hnew_
                          clear hg_ hnew_
                          (first | rw [← Ny248.out] at ho67 | (simp only [Int.reduceToNat] at ho67; rw [← Ny248.out] at ho67))
                          have n0_ := Aside0.mk (Kd.R_elder' q7_5 (Kd.R_base ho67) hb)
                          have n1_ := Aside0.mk (Kd.R_elder' (by (with_reducible repeat (first | apply Kd.R_alloc | apply Kd.R_drewN | apply Kd.R_drew)); exact HO_20.out) (Kd.R_base ho67) hb)
                          have n2_ := Aside0.mk (Kd.R_lower (Kd.R_new' (Kd.R_new' ho67 (Kd.R_lt q7_5)) (Kd.R_lt (by (with_reducible repeat (first | apply Kd.R_alloc | apply Kd.R_drewN | apply Kd.R_drew)); exact HO_20.out))) (below_size q7_3))
                          have n3_ := Aside0.mk (below_step q7_3 hb)
                          clear HO_5
                          clear HO_20
                          clear HB
                          have HO_5 := n0_
                          have HO_20 := n1_
                          have HO250 := n2_
                          have HB := n3_
                          clear n0_ n1_ n2_ n3_
                          clear hb ho67
                          refine hK.out _ _ ⟨((HB.out.cell (World.block_lt_of_cell? w _ hw240_0)).trans hw240_0), ((HB.out.cell (World.block_lt_of_cell? w _ hw241_0)).trans hw241_0), ((HB.out.cell (World.block_lt_of_cell? w _ hw242_0)).trans hw242_0), ((HB.out.cell (World.block_lt_of_cell? w _ hw243_0)).trans hw243_0), ((HB.out.cell (World.block_lt_of_cell? w _ hw244_0)).trans hw244_0), ((HB.out.cell (World.block_lt_of_cell? w _ hw245_0)).trans hw245_0), ((HB.out.cell (World.block_lt_of_cell? w _ hw246_0)).trans hw246_0), ((HB.out.cell (World.block_lt_of_cell? w _ hw247_0)).trans hw247_0)⟩ (fun hHeld => ?_)
                          clear hK K
                          refine norm_ (a' := ?_) ?_ ?_
                          rotate_left
                          ·show Act.put _ (some 206) _ = _
                           simp only [Act.put, List.setIfInBounds_toArray, List.set_cons_zero, List.set_cons_succ, i64_w, i32_w]
                           rfl
                          refine pure_ (i := 41) (N := some 4) (v := ?_) (a' := ?_) #[true, true, true, true, true, true, true, true, true, true, true, true, true, true, true, true, true, true, true, true, true, true, true, true, true, true, true, true, true, true, true, true, true, true, true, true, true, true, true, true, true, true] rfl rfl (any_of HT_.out q7_1) (fun _ _ _ h => h) (Or.inl ⟨by rfl, ?_⟩) ?_ ?_
                          rotate_left
                          ·intro w'
                           go_simp
                           with_reducible rfl
                          rotate_left
                          ·simp only [Act.put, List.setIfInBounds_toArray, List.set_cons_zero, List.set_cons_succ, i64_w, i32_w]
                           rfl
                          refine done_ (done_of HT_.out q7_1) ?_
                          try go_wp2
                          go_ret
                          exact ⟨_, by first | rfl | (simp [errW_none, errW_some] <;> rfl) | (simp [*, errW_none, errW_some] <;> rfl), by (with_reducible repeat (first | apply Kd.R_alloc | apply Kd.R_drewN | apply Kd.R_drew)); exact Kd.R_mono HO250.out (fun _ hk => trivial), by repeat (first | (with_reducible first | exact HB.out | apply below_alloc | apply pw_below_drewN | apply below_drew1) | exact HB.out)⟩
                         ·rw [if_neg c64] at H
                          exact absurd H q7_10
                        ·rw [if_neg c63] at H
                         exact absurd H q7_10
                       ·rw [if_neg c62] at H
                        exact absurd H q7_10
                      ·rw [if_neg c61] at H
                       exact absurd H q7_10
                     ·rw [if_neg c60] at H
                      exact absurd H q7_10
                    ·rw [if_neg c59] at H
                     exact absurd H q7_10
                   ·rw [if_neg c58] at H
                    exact absurd H q7_10
                  ·rw [if_neg c57] at H
                   exact absurd H q7_10
              ·rw [if_neg c44] at H
               exact absurd H q7_10
             ·rw [if_neg c43] at H
              exact absurd H q7_10
            ·rw [if_neg c42] at H
             exact absurd H q7_10
           ·rw [if_neg c41] at H
            exact absurd H q7_10
          ·rw [if_neg c40] at H
           exact absurd H q7_10
         ·rw [if_neg c39] at H
          exact absurd H q7_10
        ·rw [if_neg c38] at H
         exact absurd H q7_10
       ·rw [if_neg c37] at H
        exact absurd H q7_10

end Go.Proofs.Ytdbfclfglpbpmaa.PF25F
