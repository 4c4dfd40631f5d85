/- A disk made; a block's bytes; Write and Sync as one. No condition. -/
import Derived.Test.YtdbfclfglpbpmaaDskG
namespace Go.Proofs.Ytdbfclfglpbpmaa.Dsk
open Go.AnyFacts Go.Proofs.Ytdbfclfglpbpmaa.Sha Go.RowKit Go.Proofs.YtdbfclfglpbpmaaW.Hand Go.Proofs.YtdbfclfglpbpmaaW.PrintWords Go.Proofs.YtdbfclfglpbpmaaW.PrintLast Go.Proofs.YtdbfclfglpbpmaaW.PrintMore Go.Proofs.Ytdbfclfglpbpmaa.PF21 Go.Proofs.Ytdbfclfglpbpmaa.Base Go.Proofs.Ytdbfclfglpbpmaa.LF21
attribute [local go_sem] max2_int min2_int max_two min_two max_three min_three max_four min_four
set_option linter.unusedVariables false
set_option linter.unusedSimpArgs false

def zeros : List Int := List.replicate 256 0
theorem New_l0 (n : Nat) (bad : List Int) (hn : n ≤ 256) : ∀ (d i : Nat), n - i = d → i ≤ n → Ev (fun k => disk_New.l0 k (n : Int) (i : Int) (List.replicate i zeros) bad false (-1)) (true, List.replicate n zeros, [], bad, false, -1, 0) := by
  intro d
  induction d with
  | zero =>
    intro i hd hi
    obtain rfl : i = n := by omega
    apply ev_succ
    simp only [disk_New.l0, if_neg (show ¬ ((i : Int) < (i : Int)) by omega)]
    exact ev_some _
  | succ d ih =>
    intro i hd hi
    have hw : wrap64 ((i : Int) + 1) = ((i + 1 : Nat) : Int) := by rw [w64 (by omega) (by omega)]; omega
    apply ev_succ
    simp only [disk_New.l0, if_pos (show (i : Int) < (n : Int) by omega), if_pos (show (256 : Int) ≤ 281474976710656 by decide), List.length_replicate, if_pos (show i < 5864062014805 by omega), hw]
    rw [show List.replicate i zeros ++ [List.replicate 256 0] = List.replicate (i + 1) zeros from (List.replicate_succ' (n := i) (a := zeros)).symm]
    exact ih (i + 1) (by omega) (by omega)
theorem New_ev (n : Nat) (bad : List Int) (h1 : 1 ≤ n) (hn : n ≤ 256) (hb : bad.length ≤ 1000) : ∃ k, disk_New.f k (n : Int) bad = some (true, List.replicate n zeros, [], bad, false, -1, 0) := by
  obtain ⟨k, hk⟩ := (New_l0 n bad hn n 0 (by omega) (by omega)).rounds
  refine ⟨k, ?_⟩
  unfold disk_New.f slices_Clone_int_int.f
  rw [if_neg (by omega), if_neg (by omega), if_pos (by omega), Option.bind_some]
  exact hk
theorem rep_set (n i : Nat) (f z : Int) (hi : i < n) : (List.replicate i f ++ List.replicate (n - i) z).set i f = List.replicate (i + 1) f ++ List.replicate (n - (i + 1)) z := by
  obtain ⟨m, hm⟩ : ∃ m, n - i = m + 1 := ⟨n - i - 1, by omega⟩
  rw [hm, show n - (i + 1) = m by omega, List.replicate_succ, List.set_append_right _ _ (by simp), List.length_replicate, Nat.sub_self, List.set_cons_zero, List.replicate_succ', List.append_assoc]
  rfl
def blkL (fill last : Int) (short : Bool) : List Int := if short then List.replicate 255 fill else List.replicate 255 fill ++ [last]
theorem blkL_short (fill last : Int) : (blkL fill last true).length = 255 := by simp [blkL, -List.reduceReplicate]
theorem blkL_full (fill last : Int) : (blkL fill last false).length = 256 := by simp [blkL, -List.reduceReplicate]
theorem blkL_len (fill last : Int) (s : Bool) : (blkL fill last s).length ≤ 256 := by cases s <;> simp [blkL, -List.reduceReplicate]
theorem block_l0 (k0 n fill last : Int) (short : Bool) (ps : List Int) : ∀ (d i : Nat), 256 - i = d → i ≤ 256 → Ev (fun k => batonlaw21_block.l0 k (List.replicate i fill ++ List.replicate (256 - i) 0) (i : Int) k0 n fill last short ps) (blkL fill last short) := by
  intro d
  induction d with
  | zero =>
    intro i hd hi
    obtain rfl : i = 256 := by omega
    apply ev_succ
    have e : (List.replicate 256 fill ++ List.replicate (256 - 256) (0 : Int)).set (255 : Int).toNat last = List.replicate 255 fill ++ [last] := by
      rw [show List.replicate 256 fill = List.replicate 255 fill ++ [fill] from List.replicate_succ', Nat.sub_self, List.replicate_zero, List.append_nil, show (255 : Int).toNat = 255 from rfl, List.set_append_right _ _ (by simp [-List.reduceReplicate]), List.length_replicate, Nat.sub_self]
      rfl
    have hl : (List.replicate 256 fill ++ List.replicate (256 - 256) (0 : Int)).length = 256 := by simp [-List.reduceReplicate]
    simp only [batonlaw21_block.l0, if_neg (show ¬ (((256 : Nat) : Int) < 256) by decide), hl, if_pos (show (255 : Int) < ((256 : Nat) : Int) by decide), e, Option.bind_some]
    cases short with
    | true =>
      simp only [if_pos (show (255 : Int) ≤ ((256 : Nat) : Int) by decide)]
      refine ev_eq (ev_some _) ?_
      unfold blkL
      rw [if_pos rfl, show (255 : Int).toNat = 255 from rfl, List.take_left' (List.length_replicate)]
    | false =>
      simp only [Bool.false_eq_true, if_false]
      refine ev_eq (ev_some _) ?_
      simp [blkL, -List.reduceReplicate]
  | succ d ih =>
    intro i hd hi
    have hw : wrap64 ((i : Int) + 1) = ((i + 1 : Nat) : Int) := by rw [w64 (by omega) (by omega)]; omega
    have hl : (List.replicate i fill ++ List.replicate (256 - i) (0 : Int)).length = 256 := by simp; omega
    apply ev_succ
    simp only [batonlaw21_block.l0, hl, if_pos (show (i : Int) < 256 by omega), if_pos (show (0 : Int) ≤ (i : Int) by omega), if_pos (show (i : Int) < ((256 : Nat) : Int) by omega), Int.toNat_natCast, hw]
    rw [rep_set 256 i fill 0 (by omega)]
    exact ih (i + 1) (by omega) (by omega)
theorem block_ev (k0 n fill last : Int) (short : Bool) (ps : List Int) : ∃ k, batonlaw21_block.f k k0 n fill last short ps = some (blkL fill last short) := by
  obtain ⟨k, hk⟩ := (block_l0 k0 n fill last short ps 256 0 (by omega) (by omega)).rounds
  refine ⟨k, ?_⟩
  unfold batonlaw21_block.f
  rw [if_pos (by decide)]
  exact hk
/-- What Write, Sync come to: code, blocks, writes that wait, down, left. -/
def wrS (nb : Nat) (wt : List S154) (bad : List Int) (down : Bool) (left n : Int) (b : List Int) : Int × List S154 × Bool × Int :=
  if down then (19, wt, down, left) else if ¬ (0 ≤ n ∧ n < (nb : Int)) ∨ b.length ≠ 256 then (1, wt, down, left) else if n ∈ bad then (17, wt, down, left) else if left = 0 then (19, wt, true, left) else (0, wt ++ [⟨n, b⟩], down, dec left)
def syS (bl : List (List Int)) (wt : List S154) (down : Bool) (left : Int) : Int × List (List Int) × List S154 × Bool × Int :=
  if down then (19, bl, wt, down, left) else if left = 0 then (19, bl, wt, true, left) else (0, syncB wt bl, [], down, dec left)
section
variable {B M0 g : Nat} {bv dv wv : Value} {bl : List (List Int)} {wt : List S154} {bad : List Int} {down : Bool} {left : Int} {w W : World}
theorem Nx.refl (wv : Value) (w : World) : Nx wv wv w := .inl rfl
theorem Nx.nil (wv : Value) (w : World) : Nx wv (.slice none 0 0) w := .inr (fun k h => by simp [Value.ownBlock] at h)
theorem DSt.Write (s : DSt B M0 g bv dv wv bl wt bad down left w) (n : Int) (A2 : Option Addr) (c2 : Nat) (b : List Int) (hC : Kd.F (Kd.int .u8) w (fun k => ¬ Mut B M0 g dv wv k) A2 b.length b) (hc : b.length ≤ c2) (hbl : bad.length ≤ 1000) (hm : left ≤ 9223372036854775807) (hwt : wt.length ≤ 1000) :
    Calls Try.prog 45 #[.pointer (some ⟨g, 0, none⟩), .int .i64 n, .slice A2 b.length c2] w fun e w' => e = .returned (.int .i64 (wrS bl.length wt bad down left n b).1) ∧ ∃ wv', DSt B M0 g bv dv wv' bl (wrS bl.length wt bad down left n b).2.1 bad (wrS bl.length wt bad down left n b).2.2.1 (wrS bl.length wt bad down left n b).2.2.2 w' ∧ Stp B M0 g dv wv w w' ∧ Nx wv wv' w := by
  unfold wrS
  by_cases hd : down = true
  · rw [if_pos hd]
    exact (s.Write_down hd n A2 c2 b).mono (fun e w' h => ⟨h.1, wv, h.2.1, h.2.2, Nx.refl _ _⟩)
  rw [if_neg hd]
  have hd' : down = false := by simpa using hd
  by_cases hn : ¬ (0 ≤ n ∧ n < (bl.length : Int)) ∨ b.length ≠ 256
  · rw [if_pos hn]
    exact (s.Write_arg hd' n A2 c2 b hn).mono (fun e w' h => ⟨h.1, wv, h.2.1, h.2.2, Nx.refl _ _⟩)
  rw [if_neg hn]
  have hn0 : 0 ≤ n ∧ n < (bl.length : Int) := Classical.byContradiction (fun h => hn (.inl h))
  have hb0 : b.length = 256 := Classical.byContradiction (fun h => hn (.inr h))
  by_cases hbd : n ∈ bad
  · rw [if_pos hbd]
    exact (s.Write_bad hd' n A2 c2 b hn0 hb0 hbl hbd).mono (fun e w' h => ⟨h.1, wv, h.2.1, h.2.2, Nx.refl _ _⟩)
  rw [if_neg hbd]
  by_cases h0 : left = 0
  · rw [if_pos h0]
    exact (s.Write_cut hd' n A2 c2 b hn0 hb0 hbl hbd h0).mono (fun e w' h => ⟨h.1, wv, h.2.1, h.2.2, Nx.refl _ _⟩)
  rw [if_neg h0]
  exact s.Write_ok hd' n A2 c2 b hC hc hn0 hb0 hbl hbd h0 hm hwt
theorem DSt.Sync (s : DSt B M0 g bv dv wv bl wt bad down left w) (hm : left ≤ 9223372036854775807) (hwf : WFd bl wt) (hwt : wt.length ≤ 1000) :
    Calls Try.prog 47 #[.pointer (some ⟨g, 0, none⟩)] w fun e w' => e = .returned (.int .i64 (syS bl wt down left).1) ∧ ∃ wv', DSt B M0 g bv dv wv' (syS bl wt down left).2.1 (syS bl wt down left).2.2.1 bad (syS bl wt down left).2.2.2.1 (syS bl wt down left).2.2.2.2 w' ∧ Stp B M0 g dv wv w w' ∧ Nx wv wv' w := by
  unfold syS
  by_cases hd : down = true
  · rw [if_pos hd]
    exact (s.Sync_down hd).mono (fun e w' h => ⟨h.1, wv, h.2.1, h.2.2, Nx.refl _ _⟩)
  rw [if_neg hd]
  have hd' : down = false := by simpa using hd
  by_cases h0 : left = 0
  · rw [if_pos h0]
    exact (s.Sync_cut hd' h0).mono (fun e w' h => ⟨h.1, wv, h.2.1, h.2.2, Nx.refl _ _⟩)
  rw [if_neg h0]
  exact (s.Sync_ok hd' h0 hm hwf hwt).mono (fun e w' h => ⟨h.1, _, h.2.1, h.2.2, Nx.nil _ _⟩)
/-- A row made behind a state of the disk is none that the disk writes. -/
theorem DSt.freshF (s : DSt B M0 g bv dv wv bl wt bad down left w) {k : IntKind} {e : Nat} {ok : Nat → Prop} {A : Option Addr} {n c : Nat} {xs : List Int} {base : Nat} (hb : w.heap.size ≤ base) (hR : Kd.R (Kd.int k) e W base ok (.slice A n c) xs) : Kd.F (Kd.int k) W (fun k => ¬ Mut B M0 g dv wv k) A n xs := by
  refine Kd.F_mono (Kd.R_F (Kd.R_bound hR)) (fun k hk hm => ?_)
  have h1 := hk.2.1
  have hg := s.gB
  rcases hm with rfl | h | h
  · omega
  · have := h.2.1
    omega
  · have := Kd.R_lt s.waits k h.symm
    omega
/-- What came in before the disk was made is none that the disk writes. -/
theorem DSt.oldF (s : DSt B M0 g bv dv wv bl wt bad down left w) {k : IntKind} {A : Option Addr} {n : Nat} {xs : List Int} (hC : Kd.F (Kd.int k) W (fun k => k < B) A n xs) : Kd.F (Kd.int k) W (fun k => ¬ Mut B M0 g dv wv k) A n xs := by
  refine Kd.F_mono hC (fun k hk hm => ?_)
  have hg := s.gB
  have hk' : k < B := hk
  rcases hm with rfl | h | h
  · omega
  · have := h.1
    omega
  · have := s.wbase k h.symm
    omega
theorem made {v1 v2 v3 : Value} {w' : World} (hS : Kd.S (Kd.slice 5 (Kd.int .u8)) 22 w' w.heap.size (fun _ => True) v1 bl) (hW : v2 = .slice none 0 0) (hB : Kd.R (Kd.int .i64) 3 w' w.heap.size (fun _ => True) v3 bad) (hblk : w'.heap[g]? = some (.cells #[v1, v2, v3, .bool down, .int .i64 left] 150 (0, 0))) (hg : w.heap.size ≤ g) : DSt w.heap.size w'.heap.size g v1 v3 (.slice none 0 0) bl [] bad down left w' := by
  subst hW
  refine ⟨hblk, ?_, Kd.R_nil _ _ _ _ _, ?_, hg, blk_lt hblk, Nat.le_refl _⟩
  · have h1 := Kd.S_bound (Kd.S_types (Kd.S_apart' hS (Kd.R_typed hB) (by decide)) hblk (by decide))
    exact Kd.S_mono h1 (fun k hk => ⟨hk.2.1, hk.2.2.1, hk.1.2, hk.1.1.2⟩)
  · exact Kd.R_mono (Kd.R_bound (Kd.R_types hB hblk (by decide))) (fun k hk => ⟨hk.2.2.1, hk.1.2⟩)
end

end Go.Proofs.Ytdbfclfglpbpmaa.Dsk
