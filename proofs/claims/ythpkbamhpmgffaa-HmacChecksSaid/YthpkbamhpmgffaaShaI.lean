/- Hand-written walks and plain lemmas of sha, hmac, keys: what each Go function comes to. No condition. -/
import Derived.Test.YthpkbamhpmgffaaShaH
namespace Go.Proofs.Ythpkbamhpmgffaa.Sha
open Go.RowKit Go.Proofs.YthpkbamhpmgffaaW.Hand Go.Proofs.YthpkbamhpmgffaaW.PrintWords Go.Proofs.YthpkbamhpmgffaaW.PrintLast Go.Proofs.YthpkbamhpmgffaaW.PrintMore Go.Proofs.Ythpkbamhpmgffaa.PF02 Go.Proofs.Ythpkbamhpmgffaa.Base Go.Proofs.Ythpkbamhpmgffaa.LF02
set_option linter.unusedVariables false
set_option linter.unusedSimpArgs false

/-! ### what stands behind a text -/
def padL (n : Nat) : List Int := 128 :: (List.replicate ((64 - (n + 9) % 64) % 64) 0 ++ be 8 (8 * (n : Int)))
theorem padL_length (n : Nat) : (padL n).length = 9 + (64 - (n + 9) % 64) % 64 := by
  unfold padL
  rw [List.length_cons, List.length_append, List.length_replicate, be_length]
  omega
theorem padL_bytes (n : Nat) : Bytes (padL n) := by
  intro x hx
  rcases List.mem_cons.1 hx with rfl | hx
  · omega
  · rcases List.mem_append.1 hx with hx | hx
    · rw [List.mem_replicate] at hx
      omega
    · exact be_bytes 8 _ x hx
theorem Pad_l0 (n : Nat) (hn : n ≤ 1000000000000) : ∀ (d j : Nat), (64 - (n + 9) % 64) % 64 - j = d → j ≤ (64 - (n + 9) % 64) % 64 → Ev (fun k => sha_Pad.l0 k (n : Int) (128 :: List.replicate j 0)) (padL n) := by
  intro d
  induction d with
  | zero =>
    intro j hd hj
    have hl : (128 :: List.replicate j (0 : Int)).length = j + 1 := by simp
    have e1 : wrap64 (wrap64 ((n : Int) + ((j + 1 : Nat) : Int)) + 8) = ((n + j + 9 : Nat) : Int) := by rw [w64 (x := (n : Int) + ((j + 1 : Nat) : Int)) (by omega) (by omega), w64 (by omega) (by omega)]; omega
    have e2 : Int.tmod ((n + j + 9 : Nat) : Int) 64 = 0 := by rw [Int.tmod_eq_emod_of_nonneg (by omega)]; omega
    have e3 : IntKind.u64.wrap (IntKind.u64.wrap (n : Int) * 8) = 8 * (n : Int) := by rw [u64 (x := (n : Int)) (by omega) (by omega), u64 (by omega) (by omega)]; omega
    apply ev_succ
    simp only [sha_Pad.l0, hl, e1, e2, if_true, e3]
    refine ev_bind (Put_ev (8 * (n : Int)) 8 (by omega) (by omega)) ?_
    have e4 : putSpec (8 * (n : Int)) 8 = (be 8 (8 * (n : Int)), 0) := by
      unfold putSpec
      rw [if_neg (by omega), if_neg (by omega)]
      rfl
    rw [e4]
    simp only [be_length]
    rw [if_pos (by omega)]
    refine ev_eq (ev_some _) ?_
    unfold padL
    rw [show (64 - (n + 9) % 64) % 64 = j by omega]
    rfl
  | succ d ih =>
    intro j hd hj
    have hl : (128 :: List.replicate j (0 : Int)).length = j + 1 := by simp
    have e1 : wrap64 (wrap64 ((n : Int) + ((j + 1 : Nat) : Int)) + 8) = ((n + j + 9 : Nat) : Int) := by rw [w64 (x := (n : Int) + ((j + 1 : Nat) : Int)) (by omega) (by omega), w64 (by omega) (by omega)]; omega
    have e2 : ¬ Int.tmod ((n + j + 9 : Nat) : Int) 64 = 0 := by rw [Int.tmod_eq_emod_of_nonneg (by omega)]; omega
    apply ev_succ
    simp only [sha_Pad.l0, hl, e1, if_neg e2, if_pos (show j + 1 < 140737488355328 by omega)]
    have := ih (j + 1) (by omega) (by omega)
    rw [List.replicate_succ'] at this
    exact this
theorem Pad_ev (n : Nat) (hn : n ≤ 1000000000000) : Ev (fun k => sha_Pad.f k (n : Int)) (padL n) := by
  unfold sha_Pad.f
  have e : mx (n : Int) 0 = (n : Int) := by unfold mx; split <;> omega
  rw [e]
  exact Pad_l0 n hn ((64 - (n + 9) % 64) % 64) 0 (by omega) (by omega)
/-! ### a text eaten in two pieces -/
theorem eat_take (h a b : List Int) : ∀ (i : Nat), 64 * i ≤ a.length → eat h (a ++ b) i = eat h a i := by
  intro i
  induction i with
  | zero => exact fun _ => rfl
  | succ i ih =>
    intro hi
    rw [eat, eat, ih (by omega)]
    congr 1
    rw [List.drop_append_of_le_length (by omega), List.take_append_of_le_length (by rw [List.length_drop]; omega)]
theorem eat_add (h l : List Int) (i : Nat) : ∀ (j : Nat), eat h l (i + j) = eat (eat h l i) (l.drop (64 * i)) j := by
  intro j
  induction j with
  | zero => rfl
  | succ j ih =>
    rw [← Nat.add_assoc, eat, eat, ih, List.drop_drop]
    congr 3
    omega
theorem eat_more (h a b : List Int) : eat h (a ++ b) ((a ++ b).length / 64) = eat (eat h a (a.length / 64)) (a.drop (64 * (a.length / 64)) ++ b) ((a.drop (64 * (a.length / 64)) ++ b).length / 64) := by
  have e1 : (a.drop (64 * (a.length / 64)) ++ b).length = (a ++ b).length - 64 * (a.length / 64) := by
    rw [List.length_append, List.length_append, List.length_drop]
    omega
  have e2 : (a ++ b).length / 64 = a.length / 64 + ((a ++ b).length - 64 * (a.length / 64)) / 64 := by rw [List.length_append]; omega
  rw [e1, e2, eat_add, eat_take h a b _ (by omega), List.drop_append_of_le_length (by omega)]
theorem drop_more (a b : List Int) : (a.drop (64 * (a.length / 64)) ++ b).drop (64 * ((a.drop (64 * (a.length / 64)) ++ b).length / 64)) = (a ++ b).drop (64 * ((a ++ b).length / 64)) := by
  have e1 : (a.drop (64 * (a.length / 64)) ++ b).length = (a ++ b).length - 64 * (a.length / 64) := by
    rw [List.length_append, List.length_append, List.length_drop]
    omega
  rw [e1, ← List.drop_append_of_le_length (by omega), List.drop_drop]
  congr 1
  rw [List.length_append]
  omega
def shaL (b : List Int) : List Int := bytesL (eat FS (b ++ padL b.length) ((b ++ padL b.length).length / 64))
theorem shaL_length (b : List Int) : (shaL b).length = 32 := by unfold shaL; rw [bytesL_len, eat_length]; rfl
theorem shaL_bytes (b : List Int) : Bytes (shaL b) := bytesL_bytes _
/-- A Hash that has been given this text. -/
def HashOf (w : World) (base g : Nat) (all : List Int) : Prop :=
  ∃ A c, w.heap[g]? = some (.cells (hcells (eat FS all (all.length / 64)) (.slice A (all.drop (64 * (all.length / 64))).length c) (all.length : Int)) 79 (0, 0)) ∧ QB w base (.slice A (all.drop (64 * (all.length / 64))).length c) (all.drop (64 * (all.length / 64)))
theorem HashOf.new {w : World} {g : Nat} (h : w.heap[g]? = some (.cells (hcells FS (.slice none 0 0) 0) 79 (0, 0))) (base : Nat) : HashOf w base g [] := ⟨none, 0, h, QB.nil w base⟩
theorem HashOf.blk {w : World} {base g : Nat} {all : List Int} (h : HashOf w base g all) : ∃ cs, w.heap[g]? = some (.cells cs 79 (0, 0)) := by
  obtain ⟨A, c, h, _⟩ := h
  exact ⟨_, h⟩
theorem HashOf.lt {w : World} {base g : Nat} {all : List Int} (h : HashOf w base g all) : g < w.heap.size := by
  obtain ⟨cs, h⟩ := h.blk
  exact blk_lt h
theorem HashOf.below {w w' : World} {base g : Nat} {all : List Int} (h : HashOf w base g all) (hb : Below w.heap.size w w') : HashOf w' base g all := by
  obtain ⟨A, c, h1, h2⟩ := h
  exact ⟨A, c, (hb.block g (blk_lt h1)).trans h1, h2.below hb⟩
theorem HashOf.drewN {w : World} {base g : Nat} {all : List Int} (h : HashOf w base g all) (n : Nat) : HashOf (w.drewN n) base g all := h
/-- What is neither this Hash nor a row of bytes stays. -/
def Others (w w' : World) (g : Nat) : Prop := ∀ k cs t, k ≠ g → t ≠ 5 → w.heap[k]? = some (.cells cs t (0, 0)) → w'.heap[k]? = some (.cells cs t (0, 0))
theorem WriteH_calls (g : Nat) (all b : List Int) (A : Option Addr) (c base : Nat) (w : World) (hH : HashOf w base g all) (hbg : base ≤ g) (hbase : base ≤ w.heap.size) (hBa : Bytes all) (hC : Kd.C (Kd.int .u8) w A b.length b) (hcc : b.length ≤ c) (hBb : Bytes b) (hl : all.length + b.length ≤ 1000000000) :
    Calls Try.prog 24 #[.pointer (some ⟨g, 0, none⟩), .slice A b.length c] w fun e w' => e = .returned (.tuple #[]) ∧ HashOf w' base g (all ++ b) ∧ Below base w w' ∧ Others w w' g := by
  obtain ⟨A1, c1, h1, h2⟩ := hH
  have hdl : (all.drop (64 * (all.length / 64))).length ≤ all.length := by rw [List.length_drop]; omega
  refine (Write_calls g _ (by rw [eat_length]; rfl) _ (all.length : Int) (all.drop (64 * (all.length / 64))) b A c base w h1 hbg hbase h2 (fun x hx => hBa x (List.mem_of_mem_drop hx)) hC hcc hBb (by omega) (by omega) (by omega)).mono ?_
  rintro e w' ⟨v', rfl, e1, e2, e3, e4, e5⟩
  rw [← eat_more] at e1
  rw [drop_more] at e2
  obtain ⟨A', c', rfl, _⟩ := e2.slice
  refine ⟨rfl, ⟨A', c', ?_, e2⟩, e3, fun k cs t hk ht hb => ?_⟩
  · rw [e1]
    congr 3
    rw [List.length_append]
    omega
  · refine (e4.2 k (blk_lt hb) (fun hs => hs.elim hk (fun ho => ?_))).trans hb
    exact h2.ne hb ht ho
theorem SumH_calls (g : Nat) (all : List Int) (base : Nat) (w : World) (hH : HashOf w base g all) (hBa : Bytes all) (hl : all.length ≤ 1000000000) :
    Calls Try.prog 25 #[.pointer (some ⟨g, 0, none⟩)] w fun e w' => e = .returned (.agg (arr .u8 (shaL all))) ∧ Below w.heap.size w w' := by
  obtain ⟨A1, c1, h1, h2⟩ := hH
  have hdl : (all.drop (64 * (all.length / 64))).length ≤ all.length := by rw [List.length_drop]; omega
  obtain ⟨kp, hkp⟩ := (Pad_ev all.length (by omega)).rounds
  have := HSum_calls g _ (by rw [eat_length]; rfl) A1 c1 (all.length : Int) (all.drop (64 * (all.length / 64))) base w h1 h2 (fun x hx => hBa x (List.mem_of_mem_drop hx)) (by omega) (by omega) (by omega) (padL all.length) kp hkp (padL_bytes _) (by rw [padL_length]; omega)
  rw [← eat_more] at this
  exact this
theorem below_lift {B : Nat} {w w1 w2 : World} (h : Below w.heap.size w w1) (k : Below w.heap.size w1 w2) : Below w.heap.size w w2 := h.trans k
set_option maxHeartbeats 8000000 in
set_option maxRecDepth 100000 in
theorem Sum_calls (A : Option Addr) (c : Nat) (b : List Int) (w : World) (hC : Kd.C (Kd.int .u8) w A b.length b) (hcc : b.length ≤ c) (hBb : Bytes b) (hl : b.length ≤ 1000000000) :
    Calls Try.prog 21 #[.slice A b.length c] w fun e w' => e = .returned (.agg (arr .u8 (shaL b))) ∧ Below w.heap.size w w' := by
  have HC := Aside0.mk hC
  have HBB := Aside0.mk hBb
  clear hC hBb
  go_enter Try.func21, Try.ntmps21
  go_wp2_with (first | ((with_reducible refine gate_dst (N := 2) rfl ?_); refine L_alloc rfl 38 rfl (.agg (arr .u8 (List.replicate 32 0))) 32 (by kernel_rfl) ?_; intro g2 w1 hb2 hg2 hs2 hl2; have HB2_ := Aside0.mk hb2; clear hb2; have HG2 := Aside0.mk hg2; clear hg2; have HS2 := Aside0.mk hs2; clear hs2; have HL2 := Aside0.mk hl2; clear hl2) | (go_at_call 23; refine (New_calls _).mono ?_; rintro e w2 ⟨g, rfl, hg, hgl, hb2⟩; have HH := Aside0.mk (HashOf.new hg w1.heap.size); have HG := Aside0.mk hg; clear hg; have HB2 := Aside0.mk hb2; clear hb2) | (go_at_call 24; refine (WriteH_calls g [] b A c w1.heap.size w2 HH.out hgl HB2.out.size (fun x hx => by cases hx) (Kd.C_below (Kd.C_below HC.out HL2.out) HB2.out) hcc HBB.out (by simp; omega)).mono ?_; rintro e w3 ⟨rfl, hh3, hb3, ho3⟩; rw [List.nil_append] at hh3; have HH3 := Aside0.mk hh3; clear hh3; have HB3 := Aside0.mk hb3; clear hb3; have HO3 := Aside0.mk ho3; clear ho3) | (go_at_call 25; refine (SumH_calls g b w1.heap.size w3 HH3.out HBB.out hl).mono ?_; rintro e w4 ⟨rfl, hb4⟩; have HB4 := Aside0.mk hb4; clear hb4) | (refine L_store rfl rfl 38 (.tmp 2) (.tmp 9) (by rfl) g2 (arr .u8 (shaL b)) (by rfl) (by rfl) (arr .u8 (List.replicate 32 0)) 38 ((HB4.out.block g2 (Nat.lt_of_lt_of_le (blk_lt HB2_.out) (Nat.le_trans HB2.out.size HB3.out.size))).trans ((HB3.out.block g2 (blk_lt HB2_.out)).trans ((HB2.out.block g2 (blk_lt HB2_.out)).trans HB2_.out))) (by rw [arr_size, arr_size, shaL_length]; rfl) (by rw [arr_size, shaL_length]; kernel_rfl) (arr_one _ _) ?_; intro w9 hbw9 huw9; have HBW9 := Aside0.mk hbw9; clear hbw9; have HUW9 := Aside0.mk huw9; clear huw9))
  exact ret_cell rfl rfl g2 rfl (arr .u8 (shaL b)) 38 _ HBW9.out Try.underlying38 rfl (by rw [arr_size, shaL_length]; kernel_rfl) ⟨rfl, HUW9.out.below (below_step (below_step HL2.out (HB2.out.trans HB3.out)) HB4.out) (Nat.le_of_eq HG2.out)⟩
end Go.Proofs.Ythpkbamhpmgffaa.Sha
