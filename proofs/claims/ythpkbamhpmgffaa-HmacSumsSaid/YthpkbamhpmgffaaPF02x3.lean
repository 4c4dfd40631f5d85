/- By a program of this session (wip/tool/pp.py): plain Lean functions of the Go functions that this family of laws uses, the walks that the Go code comes to their answers, and the row of the law. No condition beside those that the row itself gives. -/
import Derived.Test.YthpkbamhpmgffaaPF02x0
import Derived.Test.YthpkbamhpmgffaaPF02x2
namespace Go.Proofs.Ythpkbamhpmgffaa.PF02
open Go.RowKit Go.Proofs.YthpkbamhpmgffaaW.Hand Go.Proofs.YthpkbamhpmgffaaW.PrintWords Go.Proofs.YthpkbamhpmgffaaW.PrintLast Go.Proofs.YthpkbamhpmgffaaW.PrintMore
attribute [local go_sem] max2_int min2_int max_two min_two max_three min_three max_four min_four   -- for this text's walks alone
set_option linter.unusedVariables false
set_option linter.unusedSimpArgs false

/-! ### batonref02_rots: function 48 -/
def batonref02_rots.f (k : Nat) (a0 : Int) (a1 : Int) (a2 : Int) (a3 : Int) : Option (Int) := (batonref01_Rot.f k a0 a1).bind fun t142 => ((batonref01_Rot.f k a0 a2).bind fun t143 => ((batonref01_Rot.f k a0 a3).bind fun t144 => (some (Go.bits .xor .u32 (Go.bits .xor .u32 t142 t143) t144))))
theorem batonref02_rots.mono : ∀ a0 a1 a2 a3 k, LeO (batonref02_rots.f k a0 a1 a2 a3) (batonref02_rots.f (k + 1) a0 a1 a2 a3) := by
 intro a0 a1 a2 a3 k
 unfold batonref02_rots.f
 repeat' first
   | (with_reducible exact batonref01_Rot.mono _ _ _)
   | (with_reducible exact LeO.refl _)
   | (with_reducible exact LeO.none _)
   | (with_reducible refine LeO.ite ?_ ?_)
   | (with_reducible refine LeO.bind ?_ (fun _ => ?_))
   | exact batonref01_Rot.mono _ _ _
   | exact LeO.none _
   | refine LeO.ite ?_ ?_
   | refine LeO.bind ?_ (fun _ => ?_)
theorem q3_1 {p : Prop} (h : p := by (try simp only [List.map_toArray, List.map_cons, List.map_nil]); first | done | rfl | (simp only [List.length_drop, List.length_take]; rfl)) : p := h
set_option maxHeartbeats 8000000 in
set_option maxRecDepth 100000 in
theorem batonref02_rots.calls (k : Nat) (a0 : Int) (a1 : Int) (a2 : Int) (a3 : Int) (r : Int) (w : World) (h : batonref02_rots.f k a0 a1 a2 a3 = some r) :
  Calls Try.prog 48 #[.int .u32 a0, .int .i64 a1, .int .i64 a2, .int .i64 a3] w fun e w' => e = .returned (.int .u32 r) ∧ Drawn0 w w' := by
 have H : ((batonref01_Rot.f k a0 a1).bind fun t142 => ((batonref01_Rot.f k a0 a2).bind fun t143 => ((batonref01_Rot.f k a0 a3).bind fun t144 => (some (Go.bits .xor .u32 (Go.bits .xor .u32 t142 t143) t144))))) = some r := h
 clear h
 replace H := Option.bind_eq_some_iff.mp H
 obtain ⟨t142, A50, H⟩ := H
 replace H : ((batonref01_Rot.f k a0 a2).bind fun t143 => ((batonref01_Rot.f k a0 a3).bind fun t144 => (some (Go.bits .xor .u32 (Go.bits .xor .u32 t142 t143) t144)))) = some r := H
 have A5 := Aside0.mk A50
 clear A50
 replace H := Option.bind_eq_some_iff.mp H
 obtain ⟨t143, A60, H⟩ := H
 replace H : ((batonref01_Rot.f k a0 a3).bind fun t144 => (some (Go.bits .xor .u32 (Go.bits .xor .u32 t142 t143) t144))) = some r := H
 have A6 := Aside0.mk A60
 clear A60
 replace H := Option.bind_eq_some_iff.mp H
 obtain ⟨t144, A70, H⟩ := H
 replace H : (some (Go.bits .xor .u32 (Go.bits .xor .u32 t142 t143) t144)) = some r := H
 have A7 := Aside0.mk A70
 clear A70
 obtain rfl := Option.some.inj H
 go_enter Try.func48, Try.ntmps48
 go_wp2_with (first | ((with_reducible refine gate_callee (f := 45) rfl ?_); refine goesL_ (some 11) rfl rfl Try.func45 (by kernel_rfl) rfl #[.int .u32 a0, .int .i64 a1] rfl q3_1 ?_; (with_reducible refine (batonref01_Rot.calls k a0 a1 t142 _ A5.out).mono ?_); rintro e w' ⟨rfl, ⟨nd, rfl⟩⟩; refine ⟨_, rfl, ?_⟩) | ((with_reducible refine gate_callee (f := 45) rfl ?_); refine goesL_ (some 14) rfl rfl Try.func45 (by kernel_rfl) rfl #[.int .u32 a0, .int .i64 a2] rfl q3_1 ?_; (with_reducible refine (batonref01_Rot.calls k a0 a2 t143 _ A6.out).mono ?_); rintro e w' ⟨rfl, ⟨nd, rfl⟩⟩; refine ⟨_, rfl, ?_⟩) | ((with_reducible refine gate_callee (f := 45) rfl ?_); refine goesL_ (some 18) rfl rfl Try.func45 (by kernel_rfl) rfl #[.int .u32 a0, .int .i64 a3] rfl q3_1 ?_; (with_reducible refine (batonref01_Rot.calls k a0 a3 t144 _ A7.out).mono ?_); rintro e w' ⟨rfl, ⟨nd, rfl⟩⟩; refine ⟨_, rfl, ?_⟩))
 go_ret
 exact ⟨by first | rfl | (simp; done) | (simp [*]; done), by repeat (first | exact Drawn0.refl _ | apply Drawn0.step)⟩

end Go.Proofs.Ythpkbamhpmgffaa.PF02
