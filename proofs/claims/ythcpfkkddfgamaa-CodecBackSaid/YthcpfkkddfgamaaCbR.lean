/- What reads an item again, kind by kind. No condition. -/
import Derived.Test.YthcpfkkddfgamaaCbW
import Derived.Test.YthcpfkkddfgamaaCcK
namespace Go.Proofs.Ythcpfkkddfgamaa.Cod
open Go.AnyFacts Go.Proofs.Ythcpfkkddfgamaa.Sha Go.RowKit Go.Proofs.YthcpfkkddfgamaaW.Hand Go.Proofs.YthcpfkkddfgamaaW.PrintWords Go.Proofs.YthcpfkkddfgamaaW.PrintLast Go.Proofs.YthcpfkkddfgamaaW.PrintMore Go.Proofs.Ythcpfkkddfgamaa.PF06C Go.Proofs.Ythcpfkkddfgamaa.Base Go.Proofs.Ythcpfkkddfgamaa.LF06C
attribute [local go_sem] max2_int min2_int max_two min_two max_three min_three max_four min_four
set_option linter.unusedVariables false
set_option linter.unusedSimpArgs false

theorem numF_rn (t : List Int) : ∀ (f : Nat) (n : Int) (i : Nat) (acc : Int), 0 ≤ n → n < 2 ^ (7 * (f + 1)) → i + f ≤ 7 → (0 < i → 0 < n) → rn (numF f n ++ t) i acc = (acc + n * 2 ^ (7 * i), t, 0) := by
  intro f
  induction f with
  | zero =>
    intro n i acc h0 h1 hi hp
    have h1' : n < 128 := by simpa using h1
    show rn (n :: t) i acc = _
    rw [rn, if_neg (by omega), if_neg (by omega), if_pos h1']
  | succ f ih =>
    intro n i acc h0 h1 hi hp
    rw [numF]
    by_cases c : n < 128
    · rw [if_pos c]
      show rn (n :: t) i acc = _
      rw [rn, if_neg (by omega), if_neg (by omega), if_pos c]
    · rw [if_neg c]
      show rn ((n % 128 + 128) :: (numF f (n / 128) ++ t)) i acc = _
      have hp1 : (2 : Int) ^ (7 * (f + 1 + 1)) = 2 ^ (7 * (f + 1)) * 128 := by rw [show 7 * (f + 1 + 1) = 7 * (f + 1) + 7 by omega, Int.pow_add]; rfl
      rw [rn, if_neg (by omega), if_neg (by omega), if_neg (by omega), ih (n / 128) (i + 1) _ (by omega) (by omega) (by omega) (fun _ => by omega)]
      have hp2 : (2 : Int) ^ (7 * (i + 1)) = 128 * 2 ^ (7 * i) := by rw [show 7 * (i + 1) = 7 + 7 * i by omega, Int.pow_add]; rfl
      rw [hp2, show n % 128 + 128 - 128 = n % 128 by omega, ← Int.mul_assoc, Int.add_assoc, ← Int.add_mul, show n % 128 + n / 128 * 128 = n by omega]
theorem numR_numF (n : Int) (t : List Int) (h0 : 0 ≤ n) (h1 : n < 72057594037927936) : numR (numF 7 n ++ t) 0 = (n, t, 0) := by
  unfold numR
  rw [if_pos rfl, numF_rn t 7 n 0 0 h0 h1 (by omega) (fun h => absurd h (by omega))]
  simp
theorem takeR_mid (m t : List Int) (n : Int) (h : n = (m.length : Int)) : takeR (m ++ t) 0 n = (m, true, t, 0) := by
  subst h
  unfold takeR
  rw [if_pos rfl, if_pos (by rw [List.length_append]; omega)]
  simp
section
variable {w wr w' : World} {g : Nat} {rest : List Int} {e : Int}
theorem RSt.byte' (s : RSt w g rest e wr) {x : Int} {rest' : List Int} {e' : Int} (h : codec_Reader_Byte.f rest e = some (x, rest', e')) : Calls Try.prog 53 #[.pointer (some ⟨g, 0, none⟩)] wr fun en w' => en = .returned (.int .u8 x) ∧ RSt w g rest' e' w' ∧ Kept wr w' (fun k => k = g) := by
  obtain ⟨A, c, h1, h2⟩ := s.st
  refine (codec_Reader_Byte.calls g (fun k => k ≠ g) A c rest e x rest' e' w wr h1 s.new s.below (Kd.V_mono h2 (fun k hk => ⟨hk, hk⟩)) h).mono ?_
  rintro en w' ⟨v1, ⟨rfl, hV, hb, hB, hk⟩⟩
  exact ⟨rfl, s.then_ hV (fun k hk => hk) hb hB, hk⟩
theorem RSt.number' (s : RSt w g rest e wr) (k : Nat) {x : Int} {rest' : List Int} {e' : Int} (h : codec_Reader_Number.f k rest e = some (x, rest', e')) : Calls Try.prog 48 #[.pointer (some ⟨g, 0, none⟩)] wr fun en w' => en = .returned (.int .i64 x) ∧ RSt w g rest' e' w' ∧ Kept wr w' (fun k => k = g) := by
  obtain ⟨A, c, h1, h2⟩ := s.st
  refine (codec_Reader_Number.calls k g (fun k => k ≠ g) A c rest e x rest' e' w wr h1 s.new s.below (Kd.V_mono h2 (fun k hk => ⟨hk, hk⟩)) h).mono ?_
  rintro en w' ⟨v1, ⟨rfl, hV, hb, hB, hk⟩⟩
  exact ⟨rfl, s.then_ hV (fun k hk => hk) hb hB, hk⟩
theorem RSt.signed' (s : RSt w g rest e wr) (k : Nat) {x : Int} {rest' : List Int} {e' : Int} (h : codec_Reader_Signed.f k rest e = some (x, rest', e')) : Calls Try.prog 54 #[.pointer (some ⟨g, 0, none⟩)] wr fun en w' => en = .returned (.int .i64 x) ∧ RSt w g rest' e' w' ∧ Kept wr w' (fun k => k = g) := by
  obtain ⟨A, c, h1, h2⟩ := s.st
  refine (codec_Reader_Signed.calls k g (fun k => k ≠ g) A c rest e x rest' e' w wr h1 s.new s.below (Kd.V_mono h2 (fun k hk => ⟨hk, hk⟩)) h).mono ?_
  rintro en w' ⟨v1, ⟨rfl, hV, hb, hB, hk⟩⟩
  exact ⟨rfl, s.then_ hV (fun k hk => hk) hb hB, hk⟩
theorem RSt.bool' (s : RSt w g rest e wr) {x : Bool} {rest' : List Int} {e' : Int} (h : codec_Reader_Bool.f rest e = some (x, rest', e')) : Calls Try.prog 57 #[.pointer (some ⟨g, 0, none⟩)] wr fun en w' => en = .returned (.bool x) ∧ RSt w g rest' e' w' ∧ Kept wr w' (fun k => k = g) := by
  obtain ⟨A, c, h1, h2⟩ := s.st
  refine (codec_Reader_Bool.calls g (fun k => k ≠ g) A c rest e x rest' e' w wr h1 s.new s.below (Kd.V_mono h2 (fun k hk => ⟨hk, hk⟩)) h).mono ?_
  rintro en w' ⟨v1, ⟨rfl, hV, hb, hB, hk⟩⟩
  exact ⟨rfl, s.then_ hV (fun k hk => hk) hb hB, hk⟩
theorem RSt.text' (s : RSt w g rest e wr) (k : Nat) (most : Int) {x : List Int} {rest' : List Int} {e' : Int} (h : codec_Reader_Text.f k rest e most = some (x, rest', e')) : Calls Try.prog 55 #[.pointer (some ⟨g, 0, none⟩), .int .i64 most] wr fun en w' => ∃ A c, en = .returned (.slice A x.length c) ∧ x.length ≤ c ∧ Kd.C (Kd.int .u8) w' A x.length x ∧ RSt w g rest' e' w' ∧ Kept wr w' (fun k => k = g) := by
  obtain ⟨A, c, h1, h2⟩ := s.st
  refine (codec_Reader_Text.calls k g (fun k => k ≠ g) A c rest e most x rest' e' w wr h1 s.new s.below (Kd.V_mono h2 (fun k hk => ⟨hk, hk⟩)) h).mono ?_
  rintro en w' ⟨v0, v1, ⟨rfl, hR, hV, hb, hB, hk⟩⟩
  obtain ⟨A0, c0, rfl, hc, hC⟩ := Kd.R_reads hR
  exact ⟨A0, c0, rfl, hc, hC, s.then_ hV (fun k hk => hk.1) hb hB, hk⟩
end
theorem key_mid (K t : List Int) (h : K.length = 32) : keyR (K ++ t) 0 = (K, t, 0) := by
  unfold keyR
  rw [takeR_mid K t 32 (by omega)]
  rfl
theorem run_eqarr {P : Program} {o : Oper} {a : Act} {W : World} (ty e : TypeId) (n : Nat) (k : IntKind) (x y : Operand) (ty2 : TypeId) (ho : o.op = .binOp .eql ty x y ty2) (ht : P.underlying ty = some (.array n e)) (he : P.underlying e = some (.int k)) (hsz : (P.info? e).map (·.size) = some 1) (hm : P.eqGuardType P.depth ty = false)
    (xs ys : List Int) (hx : a.eval x = .agg (arr k xs)) (hy : a.eval y = .agg (arr k ys)) (hlx : xs.length = n) (hly : ys.length = n) (b : Bool) (hb : decide (xs = ys) = b) : (execOp a.eval o).run P W = .ok (.value (.bool b)) W := by
  have h1 : (binOp .eql ty (.agg (arr k xs)) (.agg (arr k ys))).run P W = .ok (.bool b) W := by
    have := run_equalIn_arr (P := P) W 9998 ty e n k ht he hsz xs ys hlx hly
    rw [hb] at this
    simp [binOp, Op.equal, Op.maxDepth, this]
  simp [execOp, ho, hx, hy, run_eqGuard_agg W .eql ty x y (arr k xs) (arr k ys) hm, h1]
theorem ne_g {w wr : World} {g gx : Nat} {rest : List Int} {e : Int} (s : RSt w g rest e wr) (h : wr.heap.size = gx) : ¬ gx = g := by
  have := s.glt
  omega
theorem cells_kept {W W2 : World} {S : Nat → Prop} {gx o : Nat} {xs : List Value} (h : ∀ (j : Nat) (v : Value), xs[j]? = some v → W.cell? ((⟨gx, o, none⟩ : Addr).add j) = some v) (hk : Kept W W2 S) (hne : ¬ S gx) : ∀ (j : Nat) (v : Value), xs[j]? = some v → W2.cell? ((⟨gx, o, none⟩ : Addr).add j) = some v := by
  intro j v hv
  refine cell_kept (h j v hv) hk ?_
  rw [Addr.add_lit]
  exact hne
def ReadPost (w : World) (g : Nat) (tail : List Int) : Ending → World → Prop := fun en w' => en = .returned (.bool true) ∧ RSt w g tail 0 w'
theorem same_f (a : List Int) (hl : a.length ≤ 1000000) : ∃ k, batonref01_Same.f k a a = some true := (ev_eq (Same_ev a a (by omega)) (decide_eq_true rfl)).rounds
def Cd66_3.T : Bool × List (List Nat × List Nat) := (true, [([], []), ([0], [0]), ([], []), ([2], [2]), ([3], [3]), ([1, 4], [1, 4]), ([5, 1, 0, 1, 2, 3, 4, 5], [5])])
def Cd66_3.B : List Nat := [0, 1, 0, 4, 12, 31, 63]
theorem Cd66_3.tab : rtab .any (opsOf Try.f66 3) = Cd66_3.T := by kernel_rfl
theorem Cd66_3.bits : waitsOk Cd66_3.T.2 Cd66_3.B = true := by kernel_rfl
set_option maxHeartbeats 8000000 in
set_option maxRecDepth 100000 in
theorem read0 {w wr : World} {g : Nat} {tail : List Int} (n : Int) (B K : List Int) (A : Option Addr) (c : Nat) (s : RSt w g (itL (0, n, B, K) ++ tail) 0 wr) (hby : Bytes (itL (0, n, B, K) ++ tail)) (hlt : (itL (0, n, B, K) ++ tail).length ≤ 1000000) (hit : itE (0, n, B, K) = 0) (hC : Kd.C (Kd.int .u8) w A B.length B) (hc : B.length ≤ c) (hK : K.length = 32) (hB : B.length ≤ 1000) : Calls Try.prog 66 #[.pointer (some ⟨g, 0, none⟩), .agg (itC (0, n, B, K) A c).toArray] wr (ReadPost w g tail) := by
  have hF : codec_Reader_Byte.f (itL (0, n, B, K) ++ tail) 0 = some (n % 256, tail, 0) := by
    rw [byte_f]
    rfl
  have HF := Aside0.mk hF
  clear hF
  have HS := Aside0.mk s
  clear s hby hlt hit
  have HC := Aside0.mk hC
  have HCC := Aside0.mk hc
  have HK := Aside0.mk hK
  have HBB := Aside0.mk hB
  clear hC hc hK hB
  go_enter Try.func66, Try.ntmps66
  go_wp2_with (first
    | ((with_reducible refine gate_dst (N := 3) rfl ?_); refine L_box rfl 100 (.tmp 1) rfl (.agg (itC (0, n, B, K) A c).toArray) rfl ?_; intro gx wb hb hg hs hl; have hx0 : wb.cell? ⟨gx, 0, none⟩ = some (.int .i64 0) := (box_cells hb).1; have hx1 : wb.cell? ⟨gx, 1, none⟩ = some (.int .i64 n) := (box_cells hb).2.1; have hx2 : wb.cell? ⟨gx, 2, none⟩ = some (.slice A B.length c) := (box_cells hb).2.2.1; have HX3 := Aside0.mk (show ∀ (j : Nat) (v : Value), (K.map (Value.int .u8))[j]? = some v → wb.cell? ((⟨gx, 3, none⟩ : Addr).add j) = some v from (box_cells hb).2.2.2); have HB := Aside0.mk hl; have HG := Aside0.mk hg; clear hb hg hs hl; have HS1 := Aside0.mk ((HS.out.later HB.out).later (below_drew (Below.refl _ _))); have HNE := Aside0.mk (ne_g HS.out HG.out)))
  have HX1 := Aside0.mk hx1
  refine start_ (n := 7) (S := fun w' => w'.cell? ⟨gx, 1, none⟩ = some (.int .i64 n)) (ds := []) #[false, false, false, false, false, false, false] (by kernel_rfl) rfl rfl (HX1.out) (fun hHeld => ?_); refine with_tabW Cd66_3.tab Cd66_3.bits (fun HT_ HW_ => ?_)
  refine pure_ (i := 0) (N := some 9) (v := ?_) (a' := ?_) #[true, false, false, false, false, false, false] rfl rfl (any_of HT_.out (by kernel_rfl)) (fun _ _ _ h => h) (Or.inl ⟨by rfl, ?_⟩) ?_ ?_
  rotate_left
  · intro w'
    go_simp
    with_reducible rfl
  rotate_left
  · simp only [Act.put, List.setIfInBounds_toArray, List.set_cons_zero, List.set_cons_succ, i64_w, i32_w]
    rfl
  refine pure_ (i := 2) (N := some 11) (v := ?_) (a' := ?_) #[true, false, true, false, false, false, false] rfl rfl (any_of HT_.out (by kernel_rfl)) (fun _ _ _ h => h) (Or.inl ⟨by rfl, ?_⟩) ?_ ?_
  rotate_left
  · intro w'
    go_simp
    with_reducible rfl
  rotate_left
  · simp only [Act.put, List.setIfInBounds_toArray, List.set_cons_zero, List.set_cons_succ, i64_w, i32_w]
    rfl
  refine take_ (i := 3) (N := some 12) (v := ?_) (a' := ?_) #[true, false, true, true, false, false, false] rfl rfl (take_ofW HT_.out HW_.out (by kernel_rfl)) (fun _ _ _ h => h) (Or.inl ⟨by rfl, ?_⟩) hHeld ?_ ?_
  rotate_left
  · intro w' s0
    go_simp
    with_reducible rfl
  rotate_left
  · simp only [Act.put, List.setIfInBounds_toArray, List.set_cons_zero, List.set_cons_succ, i64_w, i32_w]
    rfl
  refine pure_ (i := 4) (N := some 13) (v := ?_) (a' := ?_) #[true, false, true, true, true, false, false] rfl rfl (any_of HT_.out (by kernel_rfl)) (fun _ _ _ h => h) (Or.inl ⟨by rfl, ?_⟩) ?_ ?_
  rotate_left
  · intro w'
    go_simp
    with_reducible rfl
  rotate_left
  · simp only [Act.put, List.setIfInBounds_toArray, List.set_cons_zero, List.set_cons_succ, i64_w, i32_w]
    rfl
  refine one_ (i := 1) (N := some 10) #[true, true, true, true, true, false, false] rfl rfl (one_of HT_.out (by kernel_rfl)) (by decide) (fun Kq hKq => ?_)
  refine goes_ Try.func53 (by kernel_rfl) rfl #[.pointer (some ⟨g, 0, none⟩)] (by rfl) rfl rfl (by (try simp only [List.map_toArray, List.map_cons, List.map_nil]); first | done | rfl) ?_
  refine (HS1.out.byte' HF.out).mono ?_
  rintro en w6 ⟨rfl, hs, hk⟩
  have HE := Aside0.mk hs
  have HX6 := Aside0.mk (cell_kept (W := wb.drew) HX1.out hk HNE.out)
  clear hs hk
  refine ⟨_, rfl, ?_⟩
  refine hKq.out _ _ HX6.out (fun hHeld => ?_)
  clear hKq Kq
  refine pure_ (i := 5) (N := some 14) (v := ?_) (a' := ?_) #[true, true, true, true, true, true, false] rfl rfl (any_of HT_.out (by kernel_rfl)) (fun _ _ _ h => h) (Or.inl ⟨by rfl, ?_⟩) ?_ ?_
  rotate_left
  · intro w'
    go_simp
    with_reducible rfl
  rotate_left
  · simp only [Act.put, List.setIfInBounds_toArray, List.set_cons_zero, List.set_cons_succ, i64_w, i32_w]
    rfl
  refine pure_ (i := 6) (N := some 4) (v := ?_) (a' := ?_) #[true, true, true, true, true, true, true] rfl rfl (any_of HT_.out (by kernel_rfl)) (fun _ _ _ h => h) (Or.inl ⟨by rfl, ?_⟩) ?_ ?_
  rotate_left
  · intro w'
    go_simp
    with_reducible rfl
  rotate_left
  · simp only [Act.put, List.setIfInBounds_toArray, List.set_cons_zero, List.set_cons_succ, i64_w, i32_w]
    rfl
  refine done_ (done_of HT_.out (by kernel_rfl)) ?_
  go_wp2
  go_ret
  refine ⟨?_, HE.out⟩
  show Ending.returned (Value.bool (n % 256 == n % 256)) = _
  rw [beq_self_eq_true]
def Cd66_5.T : Bool × List (List Nat × List Nat) := (true, [([], []), ([0], [0]), ([], []), ([2], [2]), ([1, 3], [1, 3]), ([4, 1, 0, 1, 2, 3, 4], [4])])
def Cd66_5.B : List Nat := [0, 1, 0, 4, 15, 31]
theorem Cd66_5.tab : rtab .any (opsOf Try.f66 5) = Cd66_5.T := by kernel_rfl
theorem Cd66_5.bits : waitsOk Cd66_5.T.2 Cd66_5.B = true := by kernel_rfl
set_option maxHeartbeats 8000000 in
set_option maxRecDepth 100000 in
theorem read1 {w wr : World} {g : Nat} {tail : List Int} (n : Int) (B K : List Int) (A : Option Addr) (c : Nat) (s : RSt w g (itL (1, n, B, K) ++ tail) 0 wr) (hby : Bytes (itL (1, n, B, K) ++ tail)) (hlt : (itL (1, n, B, K) ++ tail).length ≤ 1000000) (hit : itE (1, n, B, K) = 0) (hC : Kd.C (Kd.int .u8) w A B.length B) (hc : B.length ≤ c) (hK : K.length = 32) (hB : B.length ≤ 1000) : Calls Try.prog 66 #[.pointer (some ⟨g, 0, none⟩), .agg (itC (1, n, B, K) A c).toArray] wr (ReadPost w g tail) := by
  have hb : ¬ (n < 0 ∨ n > 72057594037927935) := by
    intro h
    simp [itE, h] at hit
  have hF : numR (itL (1, n, B, K) ++ tail) 0 = (n, tail, 0) := by
    have : itL (1, n, B, K) = numF 7 n := by simp [itL, hb]
    rw [this]
    exact numR_numF n tail (by omega) (by omega)
  obtain ⟨kn, hkn⟩ := (num_ev _ hby 0).rounds
  rw [hF] at hkn
  have HF := Aside0.mk hkn
  clear hF hkn hb
  have HS := Aside0.mk s
  clear s hby hlt hit
  have HC := Aside0.mk hC
  have HCC := Aside0.mk hc
  have HK := Aside0.mk hK
  have HBB := Aside0.mk hB
  clear hC hc hK hB
  go_enter Try.func66, Try.ntmps66
  go_wp2_with (first
    | ((with_reducible refine gate_dst (N := 3) rfl ?_); refine L_box rfl 100 (.tmp 1) rfl (.agg (itC (1, n, B, K) A c).toArray) rfl ?_; intro gx wb hb hg hs hl; have hx0 : wb.cell? ⟨gx, 0, none⟩ = some (.int .i64 1) := (box_cells hb).1; have hx1 : wb.cell? ⟨gx, 1, none⟩ = some (.int .i64 n) := (box_cells hb).2.1; have hx2 : wb.cell? ⟨gx, 2, none⟩ = some (.slice A B.length c) := (box_cells hb).2.2.1; have HX3 := Aside0.mk (show ∀ (j : Nat) (v : Value), (K.map (Value.int .u8))[j]? = some v → wb.cell? ((⟨gx, 3, none⟩ : Addr).add j) = some v from (box_cells hb).2.2.2); have HB := Aside0.mk hl; have HG := Aside0.mk hg; clear hb hg hs hl; have HS1 := Aside0.mk ((HS.out.later HB.out).later (below_drew (Below.refl _ _))); have HNE := Aside0.mk (ne_g HS.out HG.out)))
  have HX1 := Aside0.mk hx1
  refine start_ (n := 6) (S := fun w' => w'.cell? ⟨gx, 1, none⟩ = some (.int .i64 n)) (ds := []) #[false, false, false, false, false, false] (by kernel_rfl) rfl rfl (HX1.out) (fun hHeld => ?_); refine with_tabW Cd66_5.tab Cd66_5.bits (fun HT_ HW_ => ?_)
  refine pure_ (i := 0) (N := some 17) (v := ?_) (a' := ?_) #[true, false, false, false, false, false] rfl rfl (any_of HT_.out (by kernel_rfl)) (fun _ _ _ h => h) (Or.inl ⟨by rfl, ?_⟩) ?_ ?_
  rotate_left
  · intro w'
    go_simp
    with_reducible rfl
  rotate_left
  · simp only [Act.put, List.setIfInBounds_toArray, List.set_cons_zero, List.set_cons_succ, i64_w, i32_w]
    rfl
  refine pure_ (i := 2) (N := some 19) (v := ?_) (a' := ?_) #[true, false, true, false, false, false] rfl rfl (any_of HT_.out (by kernel_rfl)) (fun _ _ _ h => h) (Or.inl ⟨by rfl, ?_⟩) ?_ ?_
  rotate_left
  · intro w'
    go_simp
    with_reducible rfl
  rotate_left
  · simp only [Act.put, List.setIfInBounds_toArray, List.set_cons_zero, List.set_cons_succ, i64_w, i32_w]
    rfl
  refine take_ (i := 3) (N := some 20) (v := ?_) (a' := ?_) #[true, false, true, true, false, false] rfl rfl (take_ofW HT_.out HW_.out (by kernel_rfl)) (fun _ _ _ h => h) (Or.inl ⟨by rfl, ?_⟩) hHeld ?_ ?_
  rotate_left
  · intro w' s0
    go_simp
    with_reducible rfl
  rotate_left
  · simp only [Act.put, List.setIfInBounds_toArray, List.set_cons_zero, List.set_cons_succ, i64_w, i32_w]
    rfl
  refine one_ (i := 1) (N := some 18) #[true, true, true, true, false, false] rfl rfl (one_of HT_.out (by kernel_rfl)) (by decide) (fun Kq hKq => ?_)
  refine goes_ Try.func48 (by kernel_rfl) rfl #[.pointer (some ⟨g, 0, none⟩)] (by rfl) rfl rfl (by (try simp only [List.map_toArray, List.map_cons, List.map_nil]); first | done | rfl) ?_
  refine (HS1.out.number' kn HF.out).mono ?_
  rintro en w6 ⟨rfl, hs, hk⟩
  have HE := Aside0.mk hs
  have HX6 := Aside0.mk (cell_kept (W := wb.drew) HX1.out hk HNE.out)
  clear hs hk
  refine ⟨_, rfl, ?_⟩
  refine hKq.out _ _ HX6.out (fun hHeld => ?_)
  clear hKq Kq
  refine pure_ (i := 4) (N := some 21) (v := ?_) (a' := ?_) #[true, true, true, true, true, false] rfl rfl (any_of HT_.out (by kernel_rfl)) (fun _ _ _ h => h) (Or.inl ⟨by rfl, ?_⟩) ?_ ?_
  rotate_left
  · intro w'
    go_simp
    with_reducible rfl
  rotate_left
  · simp only [Act.put, List.setIfInBounds_toArray, List.set_cons_zero, List.set_cons_succ, i64_w, i32_w]
    rfl
  refine pure_ (i := 5) (N := some 4) (v := ?_) (a' := ?_) #[true, true, true, true, true, true] rfl rfl (any_of HT_.out (by kernel_rfl)) (fun _ _ _ h => h) (Or.inl ⟨by rfl, ?_⟩) ?_ ?_
  rotate_left
  · intro w'
    go_simp
    with_reducible rfl
  rotate_left
  · simp only [Act.put, List.setIfInBounds_toArray, List.set_cons_zero, List.set_cons_succ, i64_w, i32_w]
    rfl
  refine done_ (done_of HT_.out (by kernel_rfl)) ?_
  go_wp2
  go_ret
  exact ⟨rfl, HE.out⟩
def Cd66_7.T : Bool × List (List Nat × List Nat) := (true, [([], []), ([0], [0]), ([], []), ([2], [2]), ([1, 3], [1, 3]), ([4, 1, 0, 1, 2, 3, 4], [4])])
def Cd66_7.B : List Nat := [0, 1, 0, 4, 15, 31]
theorem Cd66_7.tab : rtab .any (opsOf Try.f66 7) = Cd66_7.T := by kernel_rfl
theorem Cd66_7.bits : waitsOk Cd66_7.T.2 Cd66_7.B = true := by kernel_rfl
set_option maxHeartbeats 8000000 in
set_option maxRecDepth 100000 in
theorem read2 {w wr : World} {g : Nat} {tail : List Int} (n : Int) (B K : List Int) (A : Option Addr) (c : Nat) (s : RSt w g (itL (2, n, B, K) ++ tail) 0 wr) (hby : Bytes (itL (2, n, B, K) ++ tail)) (hlt : (itL (2, n, B, K) ++ tail).length ≤ 1000000) (hit : itE (2, n, B, K) = 0) (hC : Kd.C (Kd.int .u8) w A B.length B) (hc : B.length ≤ c) (hK : K.length = 32) (hB : B.length ≤ 1000) : Calls Try.prog 66 #[.pointer (some ⟨g, 0, none⟩), .agg (itC (2, n, B, K) A c).toArray] wr (ReadPost w g tail) := by
  have hb : ¬ (n < -36028797018963968 ∨ n > 36028797018963967) := by
    intro h
    simp [itE, h] at hit
  have hz := zig_range n (by omega) (by omega)
  have hF : sgnR (itL (2, n, B, K) ++ tail) 0 = (n, tail, 0) := by
    have : itL (2, n, B, K) = numF 7 (zig n) := by simp [itL, hb]
    rw [this]
    unfold sgnR
    rw [numR_numF (zig n) tail hz.1 hz.2, decS_zig]
  obtain ⟨kn, hkn⟩ := (sgn_ev _ hby 0 (by decide)).rounds
  rw [hF] at hkn
  have HF := Aside0.mk hkn
  clear hF hkn hb hz
  have HS := Aside0.mk s
  clear s hby hlt hit
  have HC := Aside0.mk hC
  have HCC := Aside0.mk hc
  have HK := Aside0.mk hK
  have HBB := Aside0.mk hB
  clear hC hc hK hB
  go_enter Try.func66, Try.ntmps66
  go_wp2_with (first
    | ((with_reducible refine gate_dst (N := 3) rfl ?_); refine L_box rfl 100 (.tmp 1) rfl (.agg (itC (2, n, B, K) A c).toArray) rfl ?_; intro gx wb hb hg hs hl; have hx0 : wb.cell? ⟨gx, 0, none⟩ = some (.int .i64 2) := (box_cells hb).1; have hx1 : wb.cell? ⟨gx, 1, none⟩ = some (.int .i64 n) := (box_cells hb).2.1; have hx2 : wb.cell? ⟨gx, 2, none⟩ = some (.slice A B.length c) := (box_cells hb).2.2.1; have HX3 := Aside0.mk (show ∀ (j : Nat) (v : Value), (K.map (Value.int .u8))[j]? = some v → wb.cell? ((⟨gx, 3, none⟩ : Addr).add j) = some v from (box_cells hb).2.2.2); have HB := Aside0.mk hl; have HG := Aside0.mk hg; clear hb hg hs hl; have HS1 := Aside0.mk ((HS.out.later HB.out).later (below_drew (Below.refl _ _))); have HNE := Aside0.mk (ne_g HS.out HG.out)))
  have HX1 := Aside0.mk hx1
  refine start_ (n := 6) (S := fun w' => w'.cell? ⟨gx, 1, none⟩ = some (.int .i64 n)) (ds := []) #[false, false, false, false, false, false] (by kernel_rfl) rfl rfl (HX1.out) (fun hHeld => ?_); refine with_tabW Cd66_7.tab Cd66_7.bits (fun HT_ HW_ => ?_)
  refine pure_ (i := 0) (N := some 24) (v := ?_) (a' := ?_) #[true, false, false, false, false, false] rfl rfl (any_of HT_.out (by kernel_rfl)) (fun _ _ _ h => h) (Or.inl ⟨by rfl, ?_⟩) ?_ ?_
  rotate_left
  · intro w'
    go_simp
    with_reducible rfl
  rotate_left
  · simp only [Act.put, List.setIfInBounds_toArray, List.set_cons_zero, List.set_cons_succ, i64_w, i32_w]
    rfl
  refine pure_ (i := 2) (N := some 26) (v := ?_) (a' := ?_) #[true, false, true, false, false, false] rfl rfl (any_of HT_.out (by kernel_rfl)) (fun _ _ _ h => h) (Or.inl ⟨by rfl, ?_⟩) ?_ ?_
  rotate_left
  · intro w'
    go_simp
    with_reducible rfl
  rotate_left
  · simp only [Act.put, List.setIfInBounds_toArray, List.set_cons_zero, List.set_cons_succ, i64_w, i32_w]
    rfl
  refine take_ (i := 3) (N := some 27) (v := ?_) (a' := ?_) #[true, false, true, true, false, false] rfl rfl (take_ofW HT_.out HW_.out (by kernel_rfl)) (fun _ _ _ h => h) (Or.inl ⟨by rfl, ?_⟩) hHeld ?_ ?_
  rotate_left
  · intro w' s0
    go_simp
    with_reducible rfl
  rotate_left
  · simp only [Act.put, List.setIfInBounds_toArray, List.set_cons_zero, List.set_cons_succ, i64_w, i32_w]
    rfl
  refine one_ (i := 1) (N := some 25) #[true, true, true, true, false, false] rfl rfl (one_of HT_.out (by kernel_rfl)) (by decide) (fun Kq hKq => ?_)
  refine goes_ Try.func54 (by kernel_rfl) rfl #[.pointer (some ⟨g, 0, none⟩)] (by rfl) rfl rfl (by (try simp only [List.map_toArray, List.map_cons, List.map_nil]); first | done | rfl) ?_
  refine (HS1.out.signed' kn HF.out).mono ?_
  rintro en w6 ⟨rfl, hs, hk⟩
  have HE := Aside0.mk hs
  have HX6 := Aside0.mk (cell_kept (W := wb.drew) HX1.out hk HNE.out)
  clear hs hk
  refine ⟨_, rfl, ?_⟩
  refine hKq.out _ _ HX6.out (fun hHeld => ?_)
  clear hKq Kq
  refine pure_ (i := 4) (N := some 28) (v := ?_) (a' := ?_) #[true, true, true, true, true, false] rfl rfl (any_of HT_.out (by kernel_rfl)) (fun _ _ _ h => h) (Or.inl ⟨by rfl, ?_⟩) ?_ ?_
  rotate_left
  · intro w'
    go_simp
    with_reducible rfl
  rotate_left
  · simp only [Act.put, List.setIfInBounds_toArray, List.set_cons_zero, List.set_cons_succ, i64_w, i32_w]
    rfl
  refine pure_ (i := 5) (N := some 4) (v := ?_) (a' := ?_) #[true, true, true, true, true, true] rfl rfl (any_of HT_.out (by kernel_rfl)) (fun _ _ _ h => h) (Or.inl ⟨by rfl, ?_⟩) ?_ ?_
  rotate_left
  · intro w'
    go_simp
    with_reducible rfl
  rotate_left
  · simp only [Act.put, List.setIfInBounds_toArray, List.set_cons_zero, List.set_cons_succ, i64_w, i32_w]
    rfl
  refine done_ (done_of HT_.out (by kernel_rfl)) ?_
  go_wp2
  go_ret
  exact ⟨rfl, HE.out⟩
def Cd66_9.T : Bool × List (List Nat × List Nat) := (true, [([], []), ([0], [0]), ([], []), ([2], [2]), ([1, 3, 1], [1, 3]), ([4, 4, 0, 1, 2, 3, 4], [4])])
def Cd66_9.B : List Nat := [0, 1, 0, 4, 15, 31]
theorem Cd66_9.tab : rtab .any (opsOf Try.f66 9) = Cd66_9.T := by kernel_rfl
theorem Cd66_9.bits : waitsOk Cd66_9.T.2 Cd66_9.B = true := by kernel_rfl
set_option maxHeartbeats 8000000 in
set_option maxRecDepth 100000 in
theorem read3 {w wr : World} {g : Nat} {tail : List Int} (n : Int) (B K : List Int) (A : Option Addr) (c : Nat) (s : RSt w g (itL (3, n, B, K) ++ tail) 0 wr) (hby : Bytes (itL (3, n, B, K) ++ tail)) (hlt : (itL (3, n, B, K) ++ tail).length ≤ 1000000) (hit : itE (3, n, B, K) = 0) (hC : Kd.C (Kd.int .u8) w A B.length B) (hc : B.length ≤ c) (hK : K.length = 32) (hB : B.length ≤ 1000) : Calls Try.prog 66 #[.pointer (some ⟨g, 0, none⟩), .agg (itC (3, n, B, K) A c).toArray] wr (ReadPost w g tail) := by
  have hF : textR (itL (3, n, B, K) ++ tail) 0 1000 = (B, tail, 0) := by
    have : itL (3, n, B, K) ++ tail = numF 7 (B.length : Int) ++ (B ++ tail) := by simp [itL]
    rw [this]
    unfold textR
    rw [numR_numF (B.length : Int) (B ++ tail) (by omega) (by omega)]
    show ((takeR (B ++ tail) (if (0 : Int) = 0 ∧ (B.length : Int) > 1000 then 22 else 0) (B.length : Int)).1, (takeR (B ++ tail) (if (0 : Int) = 0 ∧ (B.length : Int) > 1000 then 22 else 0) (B.length : Int)).2.2.1, (takeR (B ++ tail) (if (0 : Int) = 0 ∧ (B.length : Int) > 1000 then 22 else 0) (B.length : Int)).2.2.2) = _
    rw [if_neg (by omega), takeR_mid B tail _ rfl]
  obtain ⟨kn, hkn⟩ := (text_ev _ hby hlt 0 1000 (by decide)).rounds
  rw [hF] at hkn
  have HF := Aside0.mk hkn
  obtain ⟨ks, hks⟩ := same_f B (by omega)
  have HSM := Aside0.mk hks
  clear hF hkn hks
  have HS := Aside0.mk s
  clear s hby hlt hit
  have HC := Aside0.mk hC
  have HCC := Aside0.mk hc
  have HK := Aside0.mk hK
  have HBB := Aside0.mk hB
  clear hC hc hK hB
  go_enter Try.func66, Try.ntmps66
  go_wp2_with (first
    | ((with_reducible refine gate_dst (N := 3) rfl ?_); refine L_box rfl 100 (.tmp 1) rfl (.agg (itC (3, n, B, K) A c).toArray) rfl ?_; intro gx wb hb hg hs hl; have hx0 : wb.cell? ⟨gx, 0, none⟩ = some (.int .i64 3) := (box_cells hb).1; have hx1 : wb.cell? ⟨gx, 1, none⟩ = some (.int .i64 n) := (box_cells hb).2.1; have hx2 : wb.cell? ⟨gx, 2, none⟩ = some (.slice A B.length c) := (box_cells hb).2.2.1; have HX3 := Aside0.mk (show ∀ (j : Nat) (v : Value), (K.map (Value.int .u8))[j]? = some v → wb.cell? ((⟨gx, 3, none⟩ : Addr).add j) = some v from (box_cells hb).2.2.2); have HB := Aside0.mk hl; have HG := Aside0.mk hg; clear hb hg hs hl; have HS1 := Aside0.mk ((HS.out.later HB.out).later (below_drew (Below.refl _ _))); have HNE := Aside0.mk (ne_g HS.out HG.out)))
  have HX2 := Aside0.mk hx2
  refine start_ (n := 6) (S := fun w' => w'.cell? ⟨gx, 2, none⟩ = some (.slice A B.length c)) (ds := []) #[false, false, false, false, false, false] (by kernel_rfl) rfl rfl (HX2.out) (fun hHeld => ?_); refine with_tabW Cd66_9.tab Cd66_9.bits (fun HT_ HW_ => ?_)
  refine pure_ (i := 0) (N := some 31) (v := ?_) (a' := ?_) #[true, false, false, false, false, false] rfl rfl (any_of HT_.out (by kernel_rfl)) (fun _ _ _ h => h) (Or.inl ⟨by rfl, ?_⟩) ?_ ?_
  rotate_left
  · intro w'
    go_simp
    with_reducible rfl
  rotate_left
  · simp only [Act.put, List.setIfInBounds_toArray, List.set_cons_zero, List.set_cons_succ, i64_w, i32_w]
    rfl
  refine pure_ (i := 2) (N := some 33) (v := ?_) (a' := ?_) #[true, false, true, false, false, false] rfl rfl (any_of HT_.out (by kernel_rfl)) (fun _ _ _ h => h) (Or.inl ⟨by rfl, ?_⟩) ?_ ?_
  rotate_left
  · intro w'
    go_simp
    with_reducible rfl
  rotate_left
  · simp only [Act.put, List.setIfInBounds_toArray, List.set_cons_zero, List.set_cons_succ, i64_w, i32_w]
    rfl
  refine take_ (i := 3) (N := some 34) (v := ?_) (a' := ?_) #[true, false, true, true, false, false] rfl rfl (take_ofW HT_.out HW_.out (by kernel_rfl)) (fun _ _ _ h => h) (Or.inl ⟨by rfl, ?_⟩) hHeld ?_ ?_
  rotate_left
  · intro w' s0
    go_simp
    with_reducible rfl
  rotate_left
  · simp only [Act.put, List.setIfInBounds_toArray, List.set_cons_zero, List.set_cons_succ, i64_w, i32_w]
    rfl
  refine one_ (i := 1) (N := some 32) #[true, true, true, true, false, false] rfl rfl (one_of HT_.out (by kernel_rfl)) (by decide) (fun Kq hKq => ?_)
  refine goes_ Try.func55 (by kernel_rfl) rfl #[.pointer (some ⟨g, 0, none⟩), .int .i64 1000] (by rfl) rfl rfl (by (try simp only [List.map_toArray, List.map_cons, List.map_nil]); first | done | rfl) ?_
  refine (HS1.out.text' kn 1000 HF.out).mono ?_
  rintro en w6 ⟨Ax, cx, rfl, hcx, hCx, hs, hk⟩
  have HE := Aside0.mk hs
  have HCX := Aside0.mk hCx
  have HLX := Aside0.mk hcx
  have HX6 := Aside0.mk (cell_kept (W := wb.drew) HX2.out hk HNE.out)
  clear hs hk hcx hCx
  refine ⟨_, rfl, ?_⟩
  refine hKq.out _ _ HX6.out (fun hHeld => ?_)
  clear hKq Kq
  refine one_ (i := 4) (N := some 35) #[true, true, true, true, true, false] rfl rfl (one_of HT_.out (by kernel_rfl)) (by decide) (fun Kq hKq => ?_)
  refine goes_ Try.func17 (by kernel_rfl) rfl #[.slice Ax B.length cx, .slice A B.length c] (by rfl) rfl rfl (by (try simp only [List.map_toArray, List.map_cons, List.map_nil]); first | done | rfl) ?_
  refine (batonref01_Same.calls ks Ax cx B A c B true w6 HCX.out HLX.out (Kd.C_below HC.out HE.out.below) HCC.out HSM.out).mono ?_
  rintro en w7 ⟨rfl, hd⟩
  have HE7 := Aside0.mk (HE.out.later (below_of_drawn hd))
  have HX7 := Aside0.mk (cell_below (below_of_drawn hd) HX6.out)
  clear hd
  refine ⟨_, rfl, ?_⟩
  refine hKq.out _ _ HX7.out (fun hHeld => ?_)
  clear hKq Kq
  refine pure_ (i := 5) (N := some 4) (v := ?_) (a' := ?_) #[true, true, true, true, true, true] rfl rfl (any_of HT_.out (by kernel_rfl)) (fun _ _ _ h => h) (Or.inl ⟨by rfl, ?_⟩) ?_ ?_
  rotate_left
  · intro w'
    go_simp
    with_reducible rfl
  rotate_left
  · simp only [Act.put, List.setIfInBounds_toArray, List.set_cons_zero, List.set_cons_succ, i64_w, i32_w]
    rfl
  refine done_ (done_of HT_.out (by kernel_rfl)) ?_
  go_wp2
  go_ret
  exact ⟨rfl, HE7.out⟩
def Cd66_11.T : Bool × List (List Nat × List Nat) := (true, [([], []), ([0], [0]), ([], []), ([2], [2]), ([1, 3], [1, 3]), ([4, 1, 0, 1, 2, 3, 4], [4])])
def Cd66_11.B : List Nat := [0, 1, 0, 4, 15, 31]
theorem Cd66_11.tab : rtab .any (opsOf Try.f66 11) = Cd66_11.T := by kernel_rfl
theorem Cd66_11.bits : waitsOk Cd66_11.T.2 Cd66_11.B = true := by kernel_rfl
set_option maxHeartbeats 8000000 in
set_option maxRecDepth 100000 in
theorem read4 {w wr : World} {g : Nat} {tail : List Int} (n : Int) (B K : List Int) (A : Option Addr) (c : Nat) (s : RSt w g (itL (4, n, B, K) ++ tail) 0 wr) (hby : Bytes (itL (4, n, B, K) ++ tail)) (hlt : (itL (4, n, B, K) ++ tail).length ≤ 1000000) (hit : itE (4, n, B, K) = 0) (hC : Kd.C (Kd.int .u8) w A B.length B) (hc : B.length ≤ c) (hK : K.length = 32) (hB : B.length ≤ 1000) : Calls Try.prog 66 #[.pointer (some ⟨g, 0, none⟩), .agg (itC (4, n, B, K) A c).toArray] wr (ReadPost w g tail) := by
  have hF : keyR (itL (4, n, B, K) ++ tail) 0 = (K, tail, 0) := by
    have : itL (4, n, B, K) = K := by simp [itL]
    rw [this]
    exact key_mid K tail hK
  have HKR := Aside0.mk hF
  clear hF
  have HS := Aside0.mk s
  clear s hby hlt hit
  have HC := Aside0.mk hC
  have HCC := Aside0.mk hc
  have HK := Aside0.mk hK
  have HBB := Aside0.mk hB
  clear hC hc hK hB
  go_enter Try.func66, Try.ntmps66
  go_wp2_with (first
    | ((with_reducible refine gate_dst (N := 3) rfl ?_); refine L_box rfl 100 (.tmp 1) rfl (.agg (itC (4, n, B, K) A c).toArray) rfl ?_; intro gx wb hb hg hs hl; have hx0 : wb.cell? ⟨gx, 0, none⟩ = some (.int .i64 4) := (box_cells hb).1; have hx1 : wb.cell? ⟨gx, 1, none⟩ = some (.int .i64 n) := (box_cells hb).2.1; have hx2 : wb.cell? ⟨gx, 2, none⟩ = some (.slice A B.length c) := (box_cells hb).2.2.1; have HX3 := Aside0.mk (show ∀ (j : Nat) (v : Value), (K.map (Value.int .u8))[j]? = some v → wb.cell? ((⟨gx, 3, none⟩ : Addr).add j) = some v from (box_cells hb).2.2.2); have HB := Aside0.mk hl; have HG := Aside0.mk hg; clear hb hg hs hl; have HS1 := Aside0.mk ((HS.out.later HB.out).later (below_drew (Below.refl _ _))); have HNE := Aside0.mk (ne_g HS.out HG.out)))
  refine start_ (n := 6) (S := fun w' => ∀ (j : Nat) (v : Value), (K.map (Value.int .u8))[j]? = some v → w'.cell? ((⟨gx, 3, none⟩ : Addr).add j) = some v) (ds := []) #[false, false, false, false, false, false] (by kernel_rfl) rfl rfl (HX3.out) (fun hHeld => ?_); refine with_tabW Cd66_11.tab Cd66_11.bits (fun HT_ HW_ => ?_)
  refine pure_ (i := 0) (N := some 38) (v := ?_) (a' := ?_) #[true, false, false, false, false, false] rfl rfl (any_of HT_.out (by kernel_rfl)) (fun _ _ _ h => h) (Or.inl ⟨by rfl, ?_⟩) ?_ ?_
  rotate_left
  · intro w'
    go_simp
    with_reducible rfl
  rotate_left
  · simp only [Act.put, List.setIfInBounds_toArray, List.set_cons_zero, List.set_cons_succ, i64_w, i32_w]
    rfl
  refine pure_ (i := 2) (N := some 40) (v := ?_) (a' := ?_) #[true, false, true, false, false, false] rfl rfl (any_of HT_.out (by kernel_rfl)) (fun _ _ _ h => h) (Or.inl ⟨by rfl, ?_⟩) ?_ ?_
  rotate_left
  · intro w'
    go_simp
    with_reducible rfl
  rotate_left
  · simp only [Act.put, List.setIfInBounds_toArray, List.set_cons_zero, List.set_cons_succ, i64_w, i32_w]
    rfl
  refine take_ (i := 3) (N := some 41) (v := .agg (arr .u8 K)) (a' := ?aq) #[true, false, true, true, false, false] rfl rfl (take_ofW HT_.out HW_.out (by kernel_rfl)) (fun _ _ _ h => h) (Or.inl ⟨by rfl, fun w' s0 => run_load_list 90 (.tmp 40) rfl ⟨gx, 3, none⟩ rfl (K.map (Value.int .u8)) _ s0 Try.underlying90 rfl (by rw [List.length_map, HK.out]; kernel_rfl)⟩) hHeld ?hq ?rq
  case hq => simp only [Act.put, List.setIfInBounds_toArray, List.set_cons_zero, List.set_cons_succ, i64_w, i32_w]; rfl
  refine one_ (i := 1) (N := some 39) #[true, true, true, true, false, false] rfl rfl (one_of HT_.out (by kernel_rfl)) (by decide) (fun Kq hKq => ?_)
  refine goes_ Try.func56 (by kernel_rfl) rfl #[.pointer (some ⟨g, 0, none⟩)] (by rfl) rfl rfl (by (try simp only [List.map_toArray, List.map_cons, List.map_nil]); first | done | rfl) ?_
  refine (by have hkw := HS1.out.key_walk; rw [HKR.out] at hkw; exact hkw : Calls Try.prog 56 #[.pointer (some ⟨g, 0, none⟩)] wb.drew fun en w' => en = .returned (.agg (arr .u8 K)) ∧ RSt w g tail 0 w' ∧ Kept wb.drew w' (fun k => k = g)).mono ?_
  rintro en w6 ⟨rfl, hs, hk⟩
  have HE := Aside0.mk hs
  have HX6 := Aside0.mk (cells_kept (W := wb.drew) HX3.out hk HNE.out)
  clear hs hk
  refine ⟨_, rfl, ?_⟩
  refine hKq.out _ _ HX6.out (fun hHeld => ?_)
  clear hKq Kq
  refine pure_ (i := 4) (N := some 42) (v := .bool true) (a' := ?aq4) #[true, true, true, true, true, false] rfl rfl (any_of HT_.out (by kernel_rfl)) (fun _ _ _ h => h) (Or.inl ⟨by rfl, fun w' => run_eqarr 90 5 32 .u8 (.tmp 39) (.tmp 41) 90 rfl Try.underlying90 Try.underlying5 (by kernel_rfl) (by kernel_rfl) K K rfl rfl HK.out HK.out true (decide_eq_true rfl)⟩) ?hq4 ?rq4
  case hq4 => simp only [Act.put, List.setIfInBounds_toArray, List.set_cons_zero, List.set_cons_succ, i64_w, i32_w]; rfl
  refine pure_ (i := 5) (N := some 4) (v := ?_) (a' := ?_) #[true, true, true, true, true, true] rfl rfl (any_of HT_.out (by kernel_rfl)) (fun _ _ _ h => h) (Or.inl ⟨by rfl, ?_⟩) ?_ ?_
  rotate_left
  · intro w'
    go_simp
    with_reducible rfl
  rotate_left
  · simp only [Act.put, List.setIfInBounds_toArray, List.set_cons_zero, List.set_cons_succ, i64_w, i32_w]
    rfl
  refine done_ (done_of HT_.out (by kernel_rfl)) ?_
  go_wp2
  go_ret
  exact ⟨rfl, HE.out⟩
def Cd66_12.T : Bool × List (List Nat × List Nat) := (true, [([], []), ([0], [0]), ([], []), ([2], [2]), ([3], [3]), ([4], [4]), ([1, 5], [1, 5]), ([6, 1, 0, 1, 2, 3, 4, 5, 6], [6])])
def Cd66_12.B : List Nat := [0, 1, 0, 4, 12, 28, 63, 127]
theorem Cd66_12.tab : rtab .any (opsOf Try.f66 12) = Cd66_12.T := by kernel_rfl
theorem Cd66_12.bits : waitsOk Cd66_12.T.2 Cd66_12.B = true := by kernel_rfl
set_option maxHeartbeats 8000000 in
set_option maxRecDepth 100000 in
theorem read5 {w wr : World} {g : Nat} {tail : List Int} (k : Int) (h0 : (k == 0) = false) (h1 : (k == 1) = false) (h2 : (k == 2) = false) (h3 : (k == 3) = false) (h4 : (k == 4) = false) (n : Int) (B K : List Int) (A : Option Addr) (c : Nat) (s : RSt w g (itL (k, n, B, K) ++ tail) 0 wr) (hby : Bytes (itL (k, n, B, K) ++ tail)) (hlt : (itL (k, n, B, K) ++ tail).length ≤ 1000000) (hit : itE (k, n, B, K) = 0) (hC : Kd.C (Kd.int .u8) w A B.length B) (hc : B.length ≤ c) (hK : K.length = 32) (hB : B.length ≤ 1000) : Calls Try.prog 66 #[.pointer (some ⟨g, 0, none⟩), .agg (itC (k, n, B, K) A c).toArray] wr (ReadPost w g tail) := by
  have n0 : ¬ k = 0 := beq_eq_false_iff_ne.mp h0
  have n1 : ¬ k = 1 := beq_eq_false_iff_ne.mp h1
  have n2 : ¬ k = 2 := beq_eq_false_iff_ne.mp h2
  have n3 : ¬ k = 3 := beq_eq_false_iff_ne.mp h3
  have n4 : ¬ k = 4 := beq_eq_false_iff_ne.mp h4
  have hF : codec_Reader_Bool.f (itL (k, n, B, K) ++ tail) 0 = some (Int.tmod n 2 != 0, tail, 0) := by
    rw [bool_f]
    by_cases h : Int.tmod n 2 = 0
    · have hl0 : itL (k, n, B, K) = [0] := by simp [itL, n0, n1, n2, n3, n4, h]
      rw [hl0, h]
      rfl
    · have hl0 : itL (k, n, B, K) = [1] := by simp [itL, n0, n1, n2, n3, n4, h]
      rw [hl0, bne_iff_ne.mpr h]
      rfl
  have HF := Aside0.mk hF
  clear hF n0 n1 n2 n3 n4
  have HS := Aside0.mk s
  clear s hby hlt hit
  have HC := Aside0.mk hC
  have HCC := Aside0.mk hc
  have HK := Aside0.mk hK
  have HBB := Aside0.mk hB
  clear hC hc hK hB
  go_enter Try.func66, Try.ntmps66
  go_wp2_with (first
    | ((with_reducible refine gate_dst (N := 3) rfl ?_); refine L_box rfl 100 (.tmp 1) rfl (.agg (itC (k, n, B, K) A c).toArray) rfl ?_; intro gx wb hb hg hs hl; have hx0 : wb.cell? ⟨gx, 0, none⟩ = some (.int .i64 k) := (box_cells hb).1; have hx1 : wb.cell? ⟨gx, 1, none⟩ = some (.int .i64 n) := (box_cells hb).2.1; have hx2 : wb.cell? ⟨gx, 2, none⟩ = some (.slice A B.length c) := (box_cells hb).2.2.1; have HX3 := Aside0.mk (show ∀ (j : Nat) (v : Value), (K.map (Value.int .u8))[j]? = some v → wb.cell? ((⟨gx, 3, none⟩ : Addr).add j) = some v from (box_cells hb).2.2.2); have HB := Aside0.mk hl; have HG := Aside0.mk hg; clear hb hg hs hl; have HS1 := Aside0.mk ((HS.out.later HB.out).later (below_drew (Below.refl _ _))); have HNE := Aside0.mk (ne_g HS.out HG.out)))
  have HX1 := Aside0.mk hx1
  refine start_ (n := 8) (S := fun w' => w'.cell? ⟨gx, 1, none⟩ = some (.int .i64 n)) (ds := []) #[false, false, false, false, false, false, false, false] (by kernel_rfl) rfl rfl (HX1.out) (fun hHeld => ?_); refine with_tabW Cd66_12.tab Cd66_12.bits (fun HT_ HW_ => ?_)
  refine pure_ (i := 0) (N := some 43) (v := ?_) (a' := ?_) #[true, false, false, false, false, false, false, false] rfl rfl (any_of HT_.out (by kernel_rfl)) (fun _ _ _ h => h) (Or.inl ⟨by rfl, ?_⟩) ?_ ?_
  rotate_left
  · intro w'
    go_simp
    with_reducible rfl
  rotate_left
  · simp only [Act.put, List.setIfInBounds_toArray, List.set_cons_zero, List.set_cons_succ, i64_w, i32_w]
    rfl
  refine pure_ (i := 2) (N := some 45) (v := ?_) (a' := ?_) #[true, false, true, false, false, false, false, false] rfl rfl (any_of HT_.out (by kernel_rfl)) (fun _ _ _ h => h) (Or.inl ⟨by rfl, ?_⟩) ?_ ?_
  rotate_left
  · intro w'
    go_simp
    with_reducible rfl
  rotate_left
  · simp only [Act.put, List.setIfInBounds_toArray, List.set_cons_zero, List.set_cons_succ, i64_w, i32_w]
    rfl
  refine take_ (i := 3) (N := some 46) (v := ?_) (a' := ?_) #[true, false, true, true, false, false, false, false] rfl rfl (take_ofW HT_.out HW_.out (by kernel_rfl)) (fun _ _ _ h => h) (Or.inl ⟨by rfl, ?_⟩) hHeld ?_ ?_
  rotate_left
  · intro w' s0
    go_simp
    with_reducible rfl
  rotate_left
  · simp only [Act.put, List.setIfInBounds_toArray, List.set_cons_zero, List.set_cons_succ, i64_w, i32_w]
    rfl
  refine pure_ (i := 4) (N := some 47) (v := ?_) (a' := ?_) #[true, false, true, true, true, false, false, false] rfl rfl (any_of HT_.out (by kernel_rfl)) (fun _ _ _ h => h) (Or.inl ⟨by rfl, ?_⟩) ?_ ?_
  rotate_left
  · intro w'
    go_simp
    with_reducible rfl
  rotate_left
  · simp only [Act.put, List.setIfInBounds_toArray, List.set_cons_zero, List.set_cons_succ, i64_w, i32_w]
    rfl
  refine pure_ (i := 5) (N := some 48) (v := ?_) (a' := ?_) #[true, false, true, true, true, true, false, false] rfl rfl (any_of HT_.out (by kernel_rfl)) (fun _ _ _ h => h) (Or.inl ⟨by rfl, ?_⟩) ?_ ?_
  rotate_left
  · intro w'
    go_simp
    with_reducible rfl
  rotate_left
  · simp only [Act.put, List.setIfInBounds_toArray, List.set_cons_zero, List.set_cons_succ, i64_w, i32_w]
    rfl
  refine one_ (i := 1) (N := some 44) #[true, true, true, true, true, true, false, false] rfl rfl (one_of HT_.out (by kernel_rfl)) (by decide) (fun Kq hKq => ?_)
  refine goes_ Try.func57 (by kernel_rfl) rfl #[.pointer (some ⟨g, 0, none⟩)] (by rfl) rfl rfl (by (try simp only [List.map_toArray, List.map_cons, List.map_nil]); first | done | rfl) ?_
  refine (HS1.out.bool' HF.out).mono ?_
  rintro en w6 ⟨rfl, hs, hk⟩
  have HE := Aside0.mk hs
  have HX6 := Aside0.mk (cell_kept (W := wb.drew) HX1.out hk HNE.out)
  clear hs hk
  refine ⟨_, rfl, ?_⟩
  refine hKq.out _ _ HX6.out (fun hHeld => ?_)
  clear hKq Kq
  refine pure_ (i := 6) (N := some 49) (v := ?_) (a' := ?_) #[true, true, true, true, true, true, true, false] rfl rfl (any_of HT_.out (by kernel_rfl)) (fun _ _ _ h => h) (Or.inl ⟨by rfl, ?_⟩) ?_ ?_
  rotate_left
  · intro w'
    go_simp
    with_reducible rfl
  rotate_left
  · simp only [Act.put, List.setIfInBounds_toArray, List.set_cons_zero, List.set_cons_succ, i64_w, i32_w]
    rfl
  refine pure_ (i := 7) (N := some 4) (v := ?_) (a' := ?_) #[true, true, true, true, true, true, true, true] rfl rfl (any_of HT_.out (by kernel_rfl)) (fun _ _ _ h => h) (Or.inl ⟨by rfl, ?_⟩) ?_ ?_
  rotate_left
  · intro w'
    go_simp
    with_reducible rfl
  rotate_left
  · simp only [Act.put, List.setIfInBounds_toArray, List.set_cons_zero, List.set_cons_succ, i64_w, i32_w]
    rfl
  refine done_ (done_of HT_.out (by kernel_rfl)) ?_
  go_wp2
  go_ret
  exact ⟨rfl, HE.out⟩
theorem read_calls {w wr : World} {g : Nat} {tail : List Int} (x : It) (A : Option Addr) (c : Nat) (s : RSt w g (itL x ++ tail) 0 wr) (hby : Bytes (itL x ++ tail)) (hlt : (itL x ++ tail).length ≤ 1000000) (hit : itE x = 0) (hC : Kd.C (Kd.int .u8) w A x.2.2.1.length x.2.2.1) (hc : x.2.2.1.length ≤ c) (hK : x.2.2.2.length = 32) (hB : x.2.2.1.length ≤ 1000) : Calls Try.prog 66 #[.pointer (some ⟨g, 0, none⟩), .agg (itC x A c).toArray] wr (ReadPost w g tail) := by
  obtain ⟨k, n, B, K⟩ := x
  by_cases h0 : k = 0
  · subst h0
    exact read0 n B K A c s hby hlt hit hC hc hK hB
  by_cases h1 : k = 1
  · subst h1
    exact read1 n B K A c s hby hlt hit hC hc hK hB
  by_cases h2 : k = 2
  · subst h2
    exact read2 n B K A c s hby hlt hit hC hc hK hB
  by_cases h3 : k = 3
  · subst h3
    exact read3 n B K A c s hby hlt hit hC hc hK hB
  by_cases h4 : k = 4
  · subst h4
    exact read4 n B K A c s hby hlt hit hC hc hK hB
  exact read5 k (beq_eq_false_iff_ne.mpr h0) (beq_eq_false_iff_ne.mpr h1) (beq_eq_false_iff_ne.mpr h2) (beq_eq_false_iff_ne.mpr h3) (beq_eq_false_iff_ne.mpr h4) n B K A c s hby hlt hit hC hc hK hB

end Go.Proofs.Ythcpfkkddfgamaa.Cod
