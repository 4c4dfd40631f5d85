/- The law BackPlays, its own walk: lines that go off, one by one, beside the document's list. No condition beside those that the statement gives. -/
import Derived.Test.YtgnbhomdkchcfaaDoorBakU
import Derived.Test.YtgnbhomdkchcfaaDoorBakC
namespace Go.Proofs.YtgnbhomdkchcfaaDoor.PF15P
open Go.RowKit Go.Proofs.YtgnbhomdkchcfaaDoorW.Hand Go.Proofs.YtgnbhomdkchcfaaDoorW.PrintWords Go.Proofs.YtgnbhomdkchcfaaDoorW.PrintLast Go.Proofs.YtgnbhomdkchcfaaDoorW.PrintMore
open Go.Proofs.YtgnbhomdkchcfaaDoor.LF15P
attribute [local go_sem] max2_int min2_int max_two min_two max_three min_three max_four min_four
set_option linter.unusedVariables false
set_option linter.unusedSimpArgs false

theorem below_of_drawn {w w' : World} (h : Drawn0 w w') : Below w.heap.size w w' := by
  obtain ⟨n, rfl⟩ := h
  exact pw_below_drewN (Below.refl _ _) n
theorem cell_same {w w' : World} {a : Addr} (h : w'.heap[a.block]? = w.heap[a.block]?) : w'.cell? a = w.cell? a := by
  simp only [World.cell?, h]
/-- A row that came in, read in a later world. -/
theorem V_in {w wr : World} {A : Option Addr} {c : Nat} {xs : List S28} (hC : Kd.C k28 w A xs.length xs) (hc : xs.length ≤ c) (hb : Below w.heap.size w wr) (base : Nat) : Kd.V k28 28 wr base (fun k => k < w.heap.size) (.slice A xs.length c) xs := by
  refine Kd.V_mk hc (fun W' hW => ⟨hC.1, hC.2.1, fun hp => ?_⟩)
  obtain ⟨ad, e, hcell⟩ := hC.2.2 hp
  refine ⟨ad, e, fun j p hj => ?_⟩
  obtain ⟨c, h1, h2, h3⟩ := hcell j p hj
  refine ⟨c, h1, by rw [k28_open h2]; exact k28_mk W' p, fun i u hu => ?_⟩
  have h4 := h3 i u hu
  have hlt := World.block_lt_of_cell? w _ h4
  rw [cell_same ((hW _ hlt (Nat.lt_of_lt_of_le hlt hb.size)).trans (hb.block _ hlt))]
  exact h4
theorem rdL {xs : List (List S28)} {i : Nat} (h : i < xs.length) : rd_L4 xs (i : Int) = xs[i] := by
  unfold rd_L4
  simp [List.getD_eq_getElem?_getD, h]
theorem BSt.any {B g h h' first n lost : Nat} {ring : List (List S28)} {rv : Value} {w : World} (s : BSt B g h 0 first n lost ring rv w) : BSt B g h' 0 first n lost ring rv w := by
  obtain ⟨A, c, e, _⟩ := s.rvf
  exact ⟨⟨A, c, e, fun h => absurd h (by decide)⟩, s.blk, s.len, ⟨s.gh.1, fun h => absurd h (by decide)⟩, fun h => absurd h (by decide)⟩
theorem push_any {B g h M first n lost : Nat} {ring ws : List (List S28)} {rv : Value} {w : World} (s : BSt B g h M first n lost ring rv w) (v : Vw M first n ring ws) (hB : B ≤ w.heap.size) (hM : M ≤ 1000) (hl : lost ≤ 1000000) (A2 : Option Addr) (c2 : Nat) (row c : List S28) (hrow : Kd.C k28 w A2 row.length row) (hc2 : row.length ≤ c2) (hr : ∃ k, back_Cut.f k row = some c) :
    Calls Tryd.prog 10 #[.pointer (some ⟨g, 0, none⟩), .slice A2 row.length c2] w fun e w' => e = .returned (.tuple #[]) ∧ ∃ first' n' ring', BSt B g h M first' n' (pushL M n lost) ring' rv w' ∧ Vw M first' n' ring' (pushV M ws c) ∧ Stp B g h w w' := by
  by_cases h0 : 0 < M
  · obtain ⟨k, hk⟩ := hr
    refine (s.Push_calls hB h0 hM v.nM (v.fM h0) hl _ rfl A2 c2 row c hrow hc2 k hk).mono ?_
    rintro e w' ⟨rfl, h1, h2⟩
    exact ⟨rfl, _, _, _, h1, v.push h0 s.len c, h2⟩
  · obtain rfl : M = 0 := by omega
    have hn : n = 0 := by have := v.nM; omega
    subst hn
    have hws : ws = [] := List.eq_nil_of_length_eq_zero v.len
    subst hws
    refine (s.Push_none hl _).mono ?_
    rintro e w' ⟨rfl, h1, h2⟩
    exact ⟨rfl, _, _, _, h1, ⟨rfl, Nat.le_refl _, fun h => absurd h h0, fun j hj => absurd hj (by omega)⟩, h2⟩
/-- The ring and the document's list. -/
structure Both (w : World) (g h M : Nat) (rv : Value) (lost : Nat) (ws : List (List S28)) (v9 : Value) (wr : World) : Prop where
  ring : ∃ first ring, BSt w.heap.size g h M first ws.length lost ring rv wr ∧ Vw M first ws.length ring ws
  ref : Kd.V (Kd.slice 28 k28) 22 wr 0 (fun k => k ≠ g ∧ k ≠ h) v9 ws
  below : Below w.heap.size w wr
  short : ∀ j (hj : j < ws.length), ws[j].length ≤ 20
  gh : w.heap.size ≤ g ∧ w.heap.size ≤ h ∧ g < wr.heap.size ∧ h < wr.heap.size
theorem Both.later {w wr w1 : World} {g h M lost : Nat} {rv v9 : Value} {ws : List (List S28)} (b : Both w g h M rv lost ws v9 wr) (hb : Below wr.heap.size wr w1) : Both w g h M rv lost ws v9 w1 := by
  obtain ⟨first, ring, h1, h2⟩ := b.ring
  exact ⟨⟨first, ring, h1.below hb, h2⟩, Kd.V_below b.ref hb, below_step b.below hb, b.short, by have := b.gh; have := hb.size; omega⟩

theorem Both.Len {w wr : World} {g h M lost : Nat} {rv v9 : Value} {ws : List (List S28)} (b : Both w g h M rv lost ws v9 wr) : Calls Tryd.prog 11 #[.pointer (some ⟨g, 0, none⟩)] wr fun e w' => e = .returned (.int .i64 (ws.length : Int)) ∧ Below wr.heap.size wr w' := by
  obtain ⟨first, ring, h1, h2⟩ := b.ring
  exact h1.Len_calls
theorem Both.Lost {w wr : World} {g h M lost : Nat} {rv v9 : Value} {ws : List (List S28)} (b : Both w g h M rv lost ws v9 wr) : Calls Tryd.prog 12 #[.pointer (some ⟨g, 0, none⟩)] wr fun e w' => e = .returned (.int .i64 (lost : Int)) ∧ Below wr.heap.size wr w' := by
  obtain ⟨first, ring, h1, h2⟩ := b.ring
  exact h1.Lost_calls
/-- One line more, in the document's list, then in the ring. -/
theorem Both.more {w wr : World} {g h M lost : Nat} {rv : Value} {A0 : Option Addr} {n0 c0 : Nat} {ws : List (List S28)} (b : Both w g h M rv lost ws (.slice A0 n0 c0) wr) (hM : M ≤ 1000) (hl : lost ≤ 1000000) (hw : ws.length ≤ 1000) (A2 : Option Addr) (c2 : Nat) (row : List S28) (hrow : Kd.C k28 w A2 row.length row) (hc2 : row.length ≤ c2) (h20 : row.length ≤ 20) :
    n0 = ws.length ∧ ∃ (ws' : List (List S28)) (z : Int) (lost' : Nat), (lost' : Int) = lost + z ∧ 0 ≤ z ∧ z ≤ 1 ∧ ws'.length ≤ ws.length + 1 ∧ Calls Tryd.prog 9 #[.slice A0 n0 c0, .int .i64 (M : Int), .slice A2 row.length c2] wr (fun e w1 => ∃ v1 : Value, e = .returned (.tuple #[v1, .int .i64 z]) ∧ Below wr.heap.size wr w1 ∧
      Calls Tryd.prog 10 #[.pointer (some ⟨g, 0, none⟩), .slice A2 row.length c2] w1 (fun e w2 => e = .returned (.tuple #[]) ∧ Both w g h M rv lost' ws' v1 w2)) := by
  obtain ⟨first, ring, hs, hv⟩ := b.ring
  obtain ⟨hn0, hnc, hf⟩ := Kd.V_at b.ref
  subst hn0
  obtain ⟨c, hcl, hk1, hk2⟩ := Cuts row (by omega)
  obtain ⟨k2, hk2⟩ := RPush ws hw M row c hk2
  have hgh := b.gh
  refine ⟨rfl, pushV M ws c, (if ws.length + 1 > M then 1 else 0), pushL M ws.length lost, ?_, by split <;> omega, by split <;> omega, ?_, ?_⟩
  · have := hv.nM
    unfold pushL
    by_cases e : ws.length < M
    · rw [if_pos e, if_neg (by omega)]; omega
    · rw [if_neg e, if_pos (by omega)]; omega
  · unfold pushV
    split <;> simp
  · refine (batonref15_Push.calls k2 (fun k => k ≠ g ∧ k ≠ h) A0 c0 ws (M : Int) (fun k => k < w.heap.size) A2 c2 row (pushV M ws c) _ wr b.ref (V_in hrow hc2 b.below wr.heap.size) hk2).mono ?_
    rintro e w1 ⟨v1, rfl, hV, hb1⟩
    refine ⟨v1, rfl, hb1, (push_any (hs.below hb1) hv (Nat.le_trans b.below.size hb1.size) hM hl A2 c2 row c (Kd.C_below hrow (below_step b.below hb1)) hc2 hk1).mono ?_⟩
    rintro e w2 ⟨rfl, f', n', r', h1, h2, h3⟩
    have hlen := h2.len
    subst hlen
    refine ⟨rfl, ⟨f', r', h1, h2⟩, ?_, (below_step b.below hb1).trans h3.below, fun j hj => ?_, ?_⟩
    · refine Kd.V_lower (Kd.V_kept (S := fun k => k = g ∨ k = h) (Kd.V_mono (ok' := fun k => k ≠ g ∧ k ≠ h) hV (fun k hk => ?_)) h3.kept (fun k hk hs => hs.elim hk.1 hk.2)) (Nat.zero_le _)
      rcases hk with (hk | hk) | hk
      · exact hk
      · exact ⟨by omega, by omega⟩
      · exact ⟨by omega, by omega⟩
    · have hsub : ∀ x ∈ pushV M ws c, x ∈ ws ++ [c] := by
        intro x hx
        unfold pushV at hx
        split at hx
        · exact List.mem_of_mem_drop hx
        · exact hx
      have hmem := hsub _ (List.getElem_mem hj)
      rcases List.mem_append.1 hmem with hm | hm
      · obtain ⟨q, hq, e⟩ := List.mem_iff_getElem.1 hm
        rw [← e]
        exact b.short q hq
      · rw [List.mem_singleton.1 hm]
        omega
    · have := hb1.size
      have := h3.below.size
      have := h3.kept.1
      omega
theorem Both.line {w wr : World} {g h M lost : Nat} {rv v9 : Value} {ws : List (List S28)} (b : Both w g h M rv lost ws v9 wr) (hM : M ≤ 1000) (i : Nat) (hi : i < ws.length) : Calls Tryd.prog 14 #[.pointer (some ⟨g, 0, none⟩), .int .i64 (i : Int)] wr fun e w' => ∃ v0 : Value, e = .returned v0 ∧ Kd.R k28 28 w' wr.heap.size (fun _ => True) v0 (ws[ws.length - 1 - i]'(by omega)) ∧ Below wr.heap.size wr w' := by
  obtain ⟨first, ring, hs, hv⟩ := b.ring
  obtain ⟨ll, h1, h2⟩ := hv.line i hi
  rw [List.getElem?_eq_getElem (by omega)] at h2
  have e := Option.some.inj h2
  rw [e]
  have h20 := b.short (ws.length - 1 - i) (by omega)
  rw [e] at h20
  exact hs.Line_calls i hi hv.nM (by have := hv.fM (by have := hv.nM; omega); omega) hM _ rfl ll h1 (by omega)
theorem Both.text {w wr : World} {g h M lost : Nat} {rv v9 : Value} {ws : List (List S28)} (b : Both w g h M rv lost ws v9 wr) (hM : M ≤ 1000) (i : Nat) (hi : i < ws.length) (k : Nat) (r : ByteArray) (hr : cell_Text.f k (ws[ws.length - 1 - i]'(by omega)) = some r) : Calls Tryd.prog 15 #[.pointer (some ⟨g, 0, none⟩), .int .i64 (i : Int)] wr fun e w' => e = .returned (.string r) ∧ Below wr.heap.size wr w' := by
  obtain ⟨first, ring, hs, hv⟩ := b.ring
  obtain ⟨ll, h1, h2⟩ := hv.line i hi
  rw [List.getElem?_eq_getElem (by omega)] at h2
  have e := Option.some.inj h2
  have h20 := b.short (ws.length - 1 - i) (by omega)
  rw [e] at h20 hr
  exact hs.Text_calls i hi hv.nM (by have := hv.fM (by have := hv.nM; omega); omega) hM _ rfl ll h1 (by omega) k r hr
theorem Both.noline {w wr : World} {g h M lost : Nat} {rv v9 : Value} {ws : List (List S28)} (b : Both w g h M rv lost ws v9 wr) (z : Int) (hz : z < 0 ∨ z ≥ (ws.length : Int)) : Calls Tryd.prog 14 #[.pointer (some ⟨g, 0, none⟩), .int .i64 z] wr fun e w' => e = .returned (.slice none 0 0) ∧ Below wr.heap.size wr w' := by
  obtain ⟨first, ring, hs, hv⟩ := b.ring
  exact hs.Line_none z hz
theorem Both.notext {w wr : World} {g h M lost : Nat} {rv v9 : Value} {ws : List (List S28)} (b : Both w g h M rv lost ws v9 wr) (z : Int) (hz : z < 0 ∨ z ≥ (ws.length : Int)) : Calls Tryd.prog 15 #[.pointer (some ⟨g, 0, none⟩), .int .i64 z] wr fun e w' => e = .returned (.string ⟨#[]⟩) ∧ Below wr.heap.size wr w' := by
  obtain ⟨first, ring, hs, hv⟩ := b.ring
  exact hs.Text_none z hz 6 _ text_nil
theorem Both.clear {w wr : World} {g h M lost : Nat} {rv v9 : Value} {ws : List (List S28)} (b : Both w g h M rv lost ws v9 wr) : Calls Tryd.prog 17 #[.pointer (some ⟨g, 0, none⟩)] wr fun e w' => e = .returned (.tuple #[]) ∧ (∃ ring', BSt w.heap.size g h M 0 0 lost ring' rv w') ∧ Below w.heap.size w w' := by
  obtain ⟨first, ring, hs, hv⟩ := b.ring
  refine (hs.Clear_calls b.below.size).mono ?_
  rintro e w' ⟨rfl, h1, h2⟩
  exact ⟨rfl, h1, b.below.trans h2.below⟩

theorem both_new {w w2 w3 : World} {M g : Nat} {v1 : Value} (hB2 : Below w.heap.size w w2) (hS : Kd.S (Kd.slice 28 k28) 22 w3 w2.heap.size (fun _ => True) v1 (List.replicate M [])) (hb : w3.heap[g]? = some (.cells #[v1, .int .i64 0, .int .i64 0, .int .i64 0] 47 (0, 0))) (hg : w2.heap.size ≤ g) (hB3 : Below w2.heap.size w2 w3) : ∃ h, Both w g h M v1 0 [] (.slice none 0 0) w3 := by
  obtain ⟨h, s⟩ := BSt.new (w0 := w2) hS hb hg
  have hs' : BSt w.heap.size g h M 0 0 0 (List.replicate M []) v1 w3 := ⟨s.rvf, s.blk, s.len, ⟨Nat.le_trans hB2.size s.gh.1, fun hM => ⟨Nat.le_trans hB2.size (s.gh.2 hM).1, (s.gh.2 hM).2⟩⟩, s.rows⟩
  have hv : Vw M 0 0 (List.replicate M []) [] := ⟨rfl, Nat.zero_le _, fun h => h, fun j hj => absurd hj (by omega)⟩
  have hlt := s.lt
  by_cases hM : 0 < M
  · exact ⟨h, ⟨0, _, hs', hv⟩, Kd.V_nil _ _ _ _ _, below_step hB2 hB3, fun j hj => absurd hj (by simp), ⟨hs'.gh.1, (hs'.gh.2 hM).1, hlt.1, hlt.2 hM⟩⟩
  · obtain rfl : M = 0 := by omega
    exact ⟨g, ⟨0, _, hs'.any, hv⟩, Kd.V_nil _ _ _ _ _, below_step hB2 hB3, fun j hj => absurd hj (by simp), ⟨hs'.gh.1, hs'.gh.1, hlt.1, hlt.1⟩⟩
def Bp4_23.T : Bool × List (List Nat × List Nat) := (true, [([], []), ([], []), ([0, 1], [0, 1]), ([], []), ([], []), ([4], [4]), ([5], [5]), ([], []), ([6, 7], [6, 7]), ([3, 8], [3, 8]), ([9], [9]), ([2, 10, 2], [2, 10]), ([11], [11]), ([12, 11], [12]), ([13], [13]), ([13], [13]), ([14, 15, 13, 13], [13, 14, 15]), ([13], [13]), ([13], [13]), ([18, 13], [13, 18]), ([19, 13], [13, 19]), ([13], [13]), ([20, 21, 13], [13, 20, 21]), ([17, 22, 13], [13, 17, 22]), ([23, 13], [13, 23]), ([24, 16, 13], [13, 24]), ([16, 25, 13], [13, 16, 25]), ([13, 26], [13, 26])])
def Bp4_23.B : List Nat := [0, 0, 3, 0, 0, 16, 48, 0, 240, 504, 1016, 2047, 4095, 8191, 16383, 16383, 65535, 16383, 16383, 278527, 802815, 16383, 3948543, 8273919, 16662527, 33554431, 67108863, 134217727]
theorem Bp4_23.tab : rtab .any (opsOf Tryd.f4 23) = Bp4_23.T := by kernel_rfl
theorem Bp4_23.bits : waitsOk Bp4_23.T.2 Bp4_23.B = true := by kernel_rfl
set_option maxHeartbeats 8000000 in
set_option maxRecDepth 100000 in
theorem BackPlays_calls (A1 : Option Addr) (c1 : Nat) (l : List (List S28)) (most zn : Int) (w : World) (hC : Kd.C (Kd.slice 28 k28) w A1 l.length l) (hc : l.length ≤ c1) (hz0 : -9223372036854775808 ≤ zn) (hz1 : zn ≤ 9223372036854775807) : Calls Tryd.prog 4 #[.int .i64 most, .slice A1 l.length c1, .int .i64 zn] w fun e w' => e = .returned (.bool true) ∧ Below w.heap.size w w' := by
  obtain ⟨b, kf, hkf, hfew⟩ := few_ev l
  have HA := Aside0.mk (fun W : World => batonlaw15_awake.calls true W rfl)
  have HF := Aside0.mk (fun (W : World) (hb : Below w.heap.size w W) => batonlaw15_few.calls kf A1 c1 l b W (Kd.C_below hC hb) hc hkf)
  have HC := Aside0.mk hC
  have HCC := Aside0.mk hc
  have HFEW := Aside0.mk hfew
  have hpt := ptrW_true
  have hpf := ptrW_false
  clear hkf hC hc hfew
  cases b with
  | false =>
    go_enter Tryd.func4, Tryd.ntmps4
    go_wp2_with (first
      | (go_at_call 5; refine (HA.out _).mono ?_; rintro e w1 ⟨rfl, hb⟩; have HB1 := Aside0.mk hb; clear hb)
      | (go_at_call 7; refine (HF.out _ HB1.out).mono ?_; rintro e w2 ⟨rfl, hd⟩; have HB2 := Aside0.mk (below_step HB1.out (below_of_drawn hd)); clear hd))
    go_ret
    exact ⟨rfl, HB2.out⟩
  | true =>
    obtain ⟨h130, h20⟩ := HFEW.out rfl
    by_cases hm : most < 0 ∨ most > 100
    · have HN := Aside0.mk (fun W : World => back_New.calls most false [] 0 0 0 22 W (by unfold back_New.f; split; rfl; rw [if_pos (by omega)]))
      have hfin : (decide (most < 0) = true) ∨ (decide (most < 0) = false ∧ decide (most > 100) = true) := by
        by_cases h0 : most < 0
        · exact .inl (decide_eq_true h0)
        · exact .inr ⟨decide_eq_false h0, decide_eq_true (by omega)⟩
      clear hm h130 h20
      rcases hfin with hd1 | ⟨hd1, hd2⟩
      · go_enter Tryd.func4, Tryd.ntmps4
        go_wp2_with (first
          | (go_at_call 5; refine (HA.out _).mono ?_; rintro e w1 ⟨rfl, hb⟩; have HB1 := Aside0.mk hb; clear hb)
          | (go_at_call 7; refine (HF.out _ HB1.out).mono ?_; rintro e w2 ⟨rfl, hd⟩; have HB2 := Aside0.mk (below_step HB1.out (below_of_drawn hd)); clear hd)
          | (go_at_call 8; refine (HN.out _).mono ?_; rintro e w3 ⟨v1, g, ⟨rfl, _, _, _, hB⟩⟩; have HB3 := Aside0.mk (below_step HB2.out hB); clear hB))
        go_ret
        exact ⟨rfl, HB3.out⟩
      · go_enter Tryd.func4, Tryd.ntmps4
        go_wp2_with (first
          | (go_at_call 5; refine (HA.out _).mono ?_; rintro e w1 ⟨rfl, hb⟩; have HB1 := Aside0.mk hb; clear hb)
          | (go_at_call 7; refine (HF.out _ HB1.out).mono ?_; rintro e w2 ⟨rfl, hd⟩; have HB2 := Aside0.mk (below_step HB1.out (below_of_drawn hd)); clear hd)
          | (go_at_call 8; refine (HN.out _).mono ?_; rintro e w3 ⟨v1, g, ⟨rfl, _, _, _, hB⟩⟩; have HB3 := Aside0.mk (below_step HB2.out hB); clear hB))
        go_ret
        exact ⟨rfl, HB3.out⟩
    · obtain ⟨M, rfl⟩ := Int.eq_ofNat_of_zero_le (show 0 ≤ most by omega)
      have hM : M ≤ 100 := by omega
      have HN := Aside0.mk (fun W : World => back_New.calls (M : Int) true (List.replicate M []) 0 0 0 0 W (by unfold back_New.f; rw [if_neg (by omega), if_neg (by omega), if_pos (by omega), if_pos (by omega)]; rfl))
      have HM := Aside0.mk hM
      have HL := Aside0.mk (And.intro h130 h20)
      have hd1 : decide ((M : Int) < 0) = false := decide_eq_false (by omega)
      have hd2 : decide ((M : Int) > 100) = false := decide_eq_false (by omega)
      clear hm h130 h20 hM
      go_enter Tryd.func4, Tryd.ntmps4
      go_wp2_with (first
        | (go_at_call 5; refine (HA.out _).mono ?_; rintro e w1 ⟨rfl, hb⟩; have HB1 := Aside0.mk hb; clear hb)
        | (go_at_call 7; refine (HF.out _ HB1.out).mono ?_; rintro e w2 ⟨rfl, hd⟩; have HB2 := Aside0.mk (below_step HB1.out (below_of_drawn hd)); clear hd)
        | (go_at_call 8; refine (HN.out _).mono ?_; rintro e w3 ⟨v1, g, ⟨rfl, hS, hbk, hg, hB⟩⟩; have HNEW := Aside0.mk (both_new HB2.out hS (hbk (by first | trivial | rfl)) hg hB); clear hS hbk hg hB))
      clear hd1 hd2 hpt hpf
      obtain ⟨h, hB0⟩ := HNEW.out
      have HB0 := Aside0.mk hB0
      clear hB0
      go_loopg [9, 10, 11] (l.length + 1) (fun kq v9 v10 v11 wr => ∃ (z zl : Int) (i lost : Nat) (ws : List (List S28)) (A9 : Option Addr) (c9 : Nat), v9 = .slice A9 ws.length c9 ∧ v10 = .int .i64 zl ∧ v11 = .int .i64 z ∧ Aside0 (z = (i : Int) ∧ i + kq = l.length + 1 ∧ i ≤ l.length ∧ zl = (lost : Int) ∧ lost ≤ i ∧ ws.length ≤ i) ∧ Aside0 (Both w g h M v1 lost ws (.slice A9 ws.length c9) wr))
      case atStart => exact ⟨0, 0, 0, 0, [], none, 0, rfl, rfl, rfl, ⟨⟨rfl, by omega, by omega, rfl, by omega, by simp⟩⟩, HB0⟩
      case round =>
        obtain ⟨z, zl, i, lost, ws, A9, c9, rfl, rfl, rfl, HK, HBT⟩ := hrel
        obtain ⟨hz, hk, hil, hzl, hli, hwi⟩ := HK.out
        cases gk with
        | zero => omega
        | succ k1 =>
          by_cases hi : i < l.length
          · have hib : decide (z < (l.length : Int)) = true := decide_eq_true (by omega)
            have hrow := HL.out.2 i hi
            obtain ⟨ad, A2, c2, e1, hx, hc2, hC2⟩ := at_L4 HC.out z (by omega) (by omega)
            cases e1
            have hrl : rd_L4 l z = l[i] := by rw [hz]; exact rdL hi
            rw [hrl] at hx hc2 hC2
            replace hx := (HBT.out.below.cell (World.block_lt_of_cell? w _ hx)).trans hx
            obtain ⟨_, ws', z2, lost', hlz, hz2, hz3, hwl, hmore⟩ := HBT.out.more (by have := HM.out; omega) (by have := HL.out.1; omega) (by have := HL.out.1; omega) A2 c2 l[i] hC2 hc2 hrow
            have p1 := eq_true (show (0 : Int) ≤ z by omega)
            have q1 := eq_true (show z < (l.length : Int) by omega)
            have hw1 : wrap64 (z + 1) = z + 1 := by have := HL.out.1; unfold wrap64; omega
            obtain ⟨zs, hzs⟩ : ∃ zs, zs = zl + z2 := ⟨_, rfl⟩
            have hw2 : wrap64 (zl + z2) = zs := by have := HL.out.1; unfold wrap64; omega
            have HZS := Aside0.mk (show (lost' : Int) = zs by omega)
            have HW := Aside0.mk (And.intro hwl (And.intro hz3 (And.intro hlz hz2)))
            have HMORE := Aside0.mk hmore
            have HI := Aside0.mk hi
            clear hmore hz hk hil hzl hli hwi hrl hrow hC2 hc2 hlz hz2 hz3 hwl hzs
            generalize l[i] = row at hx HMORE
            clear hi
            go_wp2_with (first
              | (go_at_call 9; refine HMORE.out.mono ?_; rintro e wa ⟨va, rfl, hba, hpush⟩; replace hx := (hba.cell (World.block_lt_of_cell? wr _ hx)).trans hx; have HPU := Aside0.mk hpush; clear hpush)
              | (go_at_call 10; refine HPU.out.mono ?_; rintro e wb ⟨rfl, hboth⟩; obtain ⟨A9', c9', ev⟩ := Kd.V_slice hboth.ref; subst ev; have HBB := Aside0.mk hboth; have HLEN := Aside0.mk hboth.Len; clear hboth)
              | (go_at_call 11; refine HLEN.out.mono ?_; rintro e wc ⟨rfl, hbc⟩; have HBC := Aside0.mk (HBB.out.later hbc); have HLOS := Aside0.mk (HBB.out.later hbc).Lost; clear hbc)
              | (go_at_call 12; refine HLOS.out.mono ?_; rintro e wd ⟨rfl, hbd⟩; have HBD := Aside0.mk (HBC.out.later hbd); clear hbd; rw [HZS.out]))
            go_roundg k1
            case measure => have := HK.out.2.1; omega
            case rel =>
              obtain ⟨y1, y2, y3, y4⟩ := HW.out
              obtain ⟨x1, x2, x3, x4, x5, x6⟩ := HK.out
              have hzs' := HZS.out
              have hi' := HI.out
              exact ⟨z + 1, zs, i + 1, lost', ws', A9', c9', rfl, by first | rfl | rw [hw2], by first | rfl | rw [hw1], ⟨And.intro (by omega) (And.intro (by omega) (And.intro (by omega) (And.intro hzs'.symm (And.intro (by omega) (by omega)))))⟩, HBD⟩
          · have hib : decide (z < (l.length : Int)) = false := decide_eq_false (by omega)
            have HWS := Aside0.mk (show ws.length ≤ 130 by have := HL.out.1; omega)
            have HZL := Aside0.mk hzl
            clear hz hk hil hzl hli hwi hi
            go_wp2
            go_loopg [14] (ws.length + 1) (fun kq v14 wr => ∃ (z : Int) (i : Nat), v14 = .int .i64 z ∧ Aside0 (z = (i : Int) ∧ i + kq = ws.length + 1 ∧ i ≤ ws.length) ∧ Aside0 (Both w g h M v1 lost ws (.slice A9 ws.length c9) wr))
            case atStart => exact ⟨0, 0, rfl, ⟨by omega⟩, HBT⟩
            case round =>
              clear HBT HK
              obtain ⟨z, i, rfl, HK, HBT⟩ := hrel
              obtain ⟨hz, hk, hil⟩ := HK.out
              cases gk with
              | zero => omega
              | succ k1 =>
                by_cases hi : i < ws.length
                · have hib : decide (z < (ws.length : Int)) = true := decide_eq_true (by omega)
                  have hM2 : M ≤ 1000 := by have := HM.out; omega
                  have hws := HWS.out
                  obtain ⟨zj, hzj⟩ : ∃ zj : Int, zj = (ws.length : Int) - 1 - z := ⟨_, rfl⟩
                  have hw1 : wrap64 ((ws.length : Int) - 1) = (ws.length : Int) - 1 := by unfold wrap64; omega
                  have hw2 : wrap64 ((ws.length : Int) - 1 - z) = zj := by unfold wrap64; omega
                  have hw3 : wrap64 (z + 1) = z + 1 := by unfold wrap64; omega
                  obtain ⟨_, _, hCV⟩ := Kd.V_reads' HBT.out.ref
                  obtain ⟨adr, Ar, cr, e1, hx, hcr, hCr⟩ := at_L4 hCV zj (by omega) (by omega)
                  subst e1
                  have hjn : zj = ((ws.length - 1 - i : Nat) : Int) := by omega
                  have hrl : rd_L4 ws zj = ws[ws.length - 1 - i]'(by omega) := (congrArg (rd_L4 ws) hjn).trans (rdL (by omega))
                  rw [hrl] at hx hcr hCr
                  have h20 := HBT.out.short (ws.length - 1 - i) (by omega)
                  obtain ⟨r, kt, hkt⟩ := text_ex (ws[ws.length - 1 - i]'(by omega)) (by omega)
                  obtain ⟨ks, hks⟩ := same_ex (ws[ws.length - 1 - i]'(by omega)) (by omega)
                  have hln := fun (W : World) (hb : Below wr.heap.size wr W) => (HBT.out.later hb).line hM2 i hi
                  have htx := fun (W : World) (hb : Below wr.heap.size wr W) => (HBT.out.later hb).text hM2 i hi kt r hkt
                  generalize ws[ws.length - 1 - i]'(by omega) = ll at hx hcr hCr h20 hkt hks hln htx
                  rw [← hz] at hln htx
                  have HLN := Aside0.mk hln
                  have HTX := Aside0.mk htx
                  have HSM := Aside0.mk (fun (A5 : Option Addr) (c5 : Nat) (W : World) (hb : Below wr.heap.size wr W) (hC5 : Kd.C k28 W A5 ll.length ll) (hc5 : ll.length ≤ c5) => (batonref09_Same.calls ks A5 c5 ll Ar cr ll true W hC5 hc5 (Kd.C_below hCr hb) hcr hks).mono (R' := fun e w' => e = .returned (.bool true) ∧ Below W.heap.size W w') (fun e w' hh => ⟨hh.1, below_of_drawn hh.2⟩))
                  have HCT := Aside0.mk (fun (W : World) (hb : Below wr.heap.size wr W) => cell_Text.calls kt Ar cr ll r W (Kd.C_below hCr hb) hcr hkt)
                  have HGL := Aside0.mk (fun (W : World) (hb : Below wr.heap.size wr W) => (show W.cell? (adr.add zj.toNat) = some (.slice Ar ll.length cr) from (hb.cell (World.block_lt_of_cell? wr _ hx)).trans hx))
                  have HG0 := Aside0.mk (HGL.out wr.drew (below_drew (Below.refl _ _)))
                  have p1 := eq_true (show (0 : Int) ≤ zj by omega)
                  have q1 := eq_true (show zj < (ws.length : Int) by omega)
                  have HI := Aside0.mk hi
                  clear hln htx hx hcr hCr h20 hkt hks hCV hrl hjn hzj hM2 hws hz hk hil hi
                  go_wp2
                  refine start_ (n := 28) (S := fun w' => w'.cell? (adr.add zj.toNat) = some (.slice Ar ll.length cr)) (ds := []) #[false, false, false, false, false, false, false, false, false, false, false, false, false, false, false, false, false, false, false, false, false, false, false, false, false, false, false, false] (by kernel_rfl) rfl rfl (HG0.out) (fun hHeld => ?_); refine with_tabW Bp4_23.tab Bp4_23.bits (fun HT_ HW_ => ?_)
                  refine pure_ (i := 0) (N := some 86) (v := ?_) (a' := ?_) #[true, false, false, false, false, false, false, false, false, false, false, false, false, false, false, false, false, false, false, false, false, false, false, false, false, false, false, false] rfl rfl (any_of HT_.out (by kernel_rfl)) (fun _ _ _ h => h) (Or.inl ⟨by rfl, ?_⟩) ?_ ?_
                  rotate_left
                  · intro w'
                    go_simp
                    with_reducible rfl
                  rotate_left
                  · simp only [Act.put, List.setIfInBounds_toArray, List.set_cons_zero, List.set_cons_succ, i64_w, i32_w]
                    rfl
                  refine pure_ (i := 1) (N := some 87) (v := ?_) (a' := ?_) #[true, true, false, false, false, false, false, false, false, false, false, false, false, false, false, false, false, false, false, false, false, false, false, false, false, false, false, false] rfl rfl (any_of HT_.out (by kernel_rfl)) (fun _ _ _ h => h) (Or.inl ⟨by rfl, ?_⟩) ?_ ?_
                  rotate_left
                  · intro w'
                    go_simp
                    with_reducible rfl
                  rotate_left
                  · simp only [Act.put, List.setIfInBounds_toArray, List.set_cons_zero, List.set_cons_succ, i64_w, i32_w]
                    rfl
                  refine pure_ (i := 3) (N := some 89) (v := ?_) (a' := ?_) #[true, true, false, true, false, false, false, false, false, false, false, false, false, false, false, false, false, false, false, false, false, false, false, false, false, false, false, false] rfl rfl (any_of HT_.out (by kernel_rfl)) (fun _ _ _ h => h) (Or.inl ⟨by rfl, ?_⟩) ?_ ?_
                  rotate_left
                  · intro w'
                    go_simp
                    with_reducible rfl
                  rotate_left
                  · simp only [Act.put, List.setIfInBounds_toArray, List.set_cons_zero, List.set_cons_succ, i64_w, i32_w]
                    rfl
                  refine pure_ (i := 4) (N := some 90) (v := ?_) (a' := ?_) #[true, true, false, true, true, false, false, false, false, false, false, false, false, false, false, false, false, false, false, false, false, false, false, false, false, false, false, false] rfl rfl (any_of HT_.out (by kernel_rfl)) (fun _ _ _ h => h) (Or.inl ⟨by rfl, ?_⟩) ?_ ?_
                  rotate_left
                  · intro w'
                    go_simp
                    with_reducible rfl
                  rotate_left
                  · simp only [Act.put, List.setIfInBounds_toArray, List.set_cons_zero, List.set_cons_succ, i64_w, i32_w]
                    rfl
                  refine pure_ (i := 5) (N := some 91) (v := ?_) (a' := ?_) #[true, true, false, true, true, true, false, false, false, false, false, false, false, false, false, false, false, false, false, false, false, false, false, false, false, false, false, false] rfl rfl (any_of HT_.out (by kernel_rfl)) (fun _ _ _ h => h) (Or.inl ⟨by rfl, ?_⟩) ?_ ?_
                  rotate_left
                  · intro w'
                    go_simp
                    with_reducible rfl
                  rotate_left
                  · simp only [Act.put, List.setIfInBounds_toArray, List.set_cons_zero, List.set_cons_succ, i64_w, i32_w]
                    rfl
                  refine pure_ (i := 6) (N := some 92) (v := ?_) (a' := ?_) #[true, true, false, true, true, true, true, false, false, false, false, false, false, false, false, false, false, false, false, false, false, false, false, false, false, false, false, false] rfl rfl (any_of HT_.out (by kernel_rfl)) (fun _ _ _ h => h) (Or.inl ⟨by rfl, ?_⟩) ?_ ?_
                  rotate_left
                  · intro w'
                    go_simp
                    with_reducible rfl
                  rotate_left
                  · simp only [Act.put, List.setIfInBounds_toArray, List.set_cons_zero, List.set_cons_succ, i64_w, i32_w]
                    rfl
                  refine pure_ (i := 7) (N := some 93) (v := ?_) (a' := ?_) #[true, true, false, true, true, true, true, true, false, false, false, false, false, false, false, false, false, false, false, false, false, false, false, false, false, false, false, false] rfl rfl (any_of HT_.out (by kernel_rfl)) (fun _ _ _ h => h) (Or.inl ⟨by rfl, ?_⟩) ?_ ?_
                  rotate_left
                  · intro w'
                    go_simp
                    with_reducible rfl
                  rotate_left
                  · simp only [Act.put, List.setIfInBounds_toArray, List.set_cons_zero, List.set_cons_succ, i64_w, i32_w]
                    rfl
                  refine pure_ (i := 8) (N := some 94) (v := ?_) (a' := ?_) #[true, true, false, true, true, true, true, true, true, false, false, false, false, false, false, false, false, false, false, false, false, false, false, false, false, false, false, false] rfl rfl (any_of HT_.out (by kernel_rfl)) (fun _ _ _ h => h) (Or.inl ⟨by rfl, ?_⟩) ?_ ?_
                  rotate_left
                  · intro w'
                    go_simp
                    with_reducible rfl
                  rotate_left
                  · simp only [Act.put, List.setIfInBounds_toArray, List.set_cons_zero, List.set_cons_succ, i64_w, i32_w]
                    rfl
                  refine pure_ (i := 9) (N := some 95) (v := ?_) (a' := ?_) #[true, true, false, true, true, true, true, true, true, true, false, false, false, false, false, false, false, false, false, false, false, false, false, false, false, false, false, false] rfl rfl (any_of HT_.out (by kernel_rfl)) (fun _ _ _ h => h) (Or.inl ⟨by rfl, ?_⟩) ?_ ?_
                  rotate_left
                  · intro w'
                    go_simp
                    with_reducible rfl
                  rotate_left
                  · simp only [Act.put, List.setIfInBounds_toArray, List.set_cons_zero, List.set_cons_succ, i64_w, i32_w]
                    rfl
                  refine take_ (i := 10) (N := some 96) (v := ?_) (a' := ?_) #[true, true, false, true, true, true, true, true, true, true, true, false, false, false, false, false, false, false, false, false, false, false, false, false, false, false, false, false] rfl rfl (take_ofW HT_.out HW_.out (by kernel_rfl)) (fun _ _ _ h => h) (Or.inl ⟨by rfl, ?_⟩) hHeld ?_ ?_
                  rotate_left
                  · intro w' s0
                    go_simp
                    with_reducible rfl
                  rotate_left
                  · simp only [Act.put, List.setIfInBounds_toArray, List.set_cons_zero, List.set_cons_succ, i64_w, i32_w]
                    rfl
                  refine one_ (i := 2) (N := some 88) #[true, true, true, true, true, true, true, true, true, true, true, false, false, false, false, false, false, false, false, false, false, false, false, false, false, false, false, false] rfl rfl (one_of HT_.out (by kernel_rfl)) (by decide) (fun K hK => ?_)
                  refine goes_ Tryd.func14 (by kernel_rfl) rfl #[.pointer (some ⟨g, 0, none⟩), .int .i64 z] (by rfl) rfl rfl (by (try simp only [List.map_toArray, List.map_cons, List.map_nil]); first | done | rfl) ?_
                  refine (HLN.out wr.drew (below_drew (Below.refl _ _))).mono ?_
                  rintro e w5 ⟨v5, rfl, hR5, hb5⟩
                  obtain ⟨A5, c5, rfl, hc5, hC5⟩ := Kd.R_reads hR5
                  have HC5 := Aside0.mk hC5
                  have HL5 := Aside0.mk hc5
                  have HB5 := Aside0.mk (below_step (below_drew (Below.refl _ _)) hb5)
                  clear hR5 hc5 hC5 hb5
                  refine ⟨_, rfl, ?_⟩
                  refine hK.out _ _ (HGL.out w5 HB5.out) (fun hHeld => ?_)
                  clear hK K
                  refine one_ (i := 11) (N := some 97) #[true, true, true, true, true, true, true, true, true, true, true, true, false, false, false, false, false, false, false, false, false, false, false, false, false, false, false, false] rfl rfl (one_of HT_.out (by kernel_rfl)) (by decide) (fun K hK => ?_)
                  refine goes_ Tryd.func13 (by kernel_rfl) rfl #[.slice A5 ll.length c5, .slice Ar ll.length cr] (by rfl) rfl rfl (by (try simp only [List.map_toArray, List.map_cons, List.map_nil]); first | done | rfl) ?_
                  refine (HSM.out A5 c5 w5 HB5.out HC5.out HL5.out).mono ?_
                  rintro e w6 ⟨rfl, hb6⟩
                  have HB6 := Aside0.mk (below_step HB5.out hb6)
                  clear hb6
                  refine ⟨_, rfl, ?_⟩
                  refine hK.out _ _ (HGL.out w6 HB6.out) (fun hHeld => ?_)
                  clear hK K
                  refine pure_ (i := 12) (N := some 98) (v := ?_) (a' := ?_) #[true, true, true, true, true, true, true, true, true, true, true, true, true, false, false, false, false, false, false, false, false, false, false, false, false, false, false, false] rfl rfl (any_of HT_.out (by kernel_rfl)) (fun _ _ _ h => h) (Or.inl ⟨by rfl, ?_⟩) ?_ ?_
                  rotate_left
                  · intro w'
                    go_simp
                    with_reducible rfl
                  rotate_left
                  · simp only [Act.put, List.setIfInBounds_toArray, List.set_cons_zero, List.set_cons_succ, i64_w, i32_w]
                    rfl
                  refine pure_ (i := 13) (N := some 99) (v := ?_) (a' := ?_) #[true, true, true, true, true, true, true, true, true, true, true, true, true, true, false, false, false, false, false, false, false, false, false, false, false, false, false, false] rfl rfl (any_of HT_.out (by kernel_rfl)) (fun _ _ _ h => h) (Or.inl ⟨by rfl, ?_⟩) ?_ ?_
                  rotate_left
                  · intro w'
                    go_simp
                    with_reducible rfl
                  rotate_left
                  · simp only [Act.put, List.setIfInBounds_toArray, List.set_cons_zero, List.set_cons_succ, i64_w, i32_w]
                    rfl
                  refine pure_ (i := 14) (N := some 100) (v := ?_) (a' := ?_) #[true, true, true, true, true, true, true, true, true, true, true, true, true, true, true, false, false, false, false, false, false, false, false, false, false, false, false, false] rfl rfl (any_of HT_.out (by kernel_rfl)) (fun _ _ _ h => h) (Or.inl ⟨by rfl, ?_⟩) ?_ ?_
                  rotate_left
                  · intro w'
                    go_simp
                    with_reducible rfl
                  rotate_left
                  · simp only [Act.put, List.setIfInBounds_toArray, List.set_cons_zero, List.set_cons_succ, i64_w, i32_w]
                    rfl
                  refine pure_ (i := 15) (N := some 101) (v := ?_) (a' := ?_) #[true, true, true, true, true, true, true, true, true, true, true, true, true, true, true, true, false, false, false, false, false, false, false, false, false, false, false, false] rfl rfl (any_of HT_.out (by kernel_rfl)) (fun _ _ _ h => h) (Or.inl ⟨by rfl, ?_⟩) ?_ ?_
                  rotate_left
                  · intro w'
                    go_simp
                    with_reducible rfl
                  rotate_left
                  · simp only [Act.put, List.setIfInBounds_toArray, List.set_cons_zero, List.set_cons_succ, i64_w, i32_w]
                    rfl
                  refine pure_ (i := 17) (N := some 103) (v := ?_) (a' := ?_) #[true, true, true, true, true, true, true, true, true, true, true, true, true, true, true, true, false, true, false, false, false, false, false, false, false, false, false, false] rfl rfl (any_of HT_.out (by kernel_rfl)) (fun _ _ _ h => h) (Or.inl ⟨by rfl, ?_⟩) ?_ ?_
                  rotate_left
                  · intro w'
                    go_simp
                    with_reducible rfl
                  rotate_left
                  · simp only [Act.put, List.setIfInBounds_toArray, List.set_cons_zero, List.set_cons_succ, i64_w, i32_w]
                    rfl
                  refine pure_ (i := 18) (N := some 104) (v := ?_) (a' := ?_) #[true, true, true, true, true, true, true, true, true, true, true, true, true, true, true, true, false, true, true, false, false, false, false, false, false, false, false, false] rfl rfl (any_of HT_.out (by kernel_rfl)) (fun _ _ _ h => h) (Or.inl ⟨by rfl, ?_⟩) ?_ ?_
                  rotate_left
                  · intro w'
                    go_simp
                    with_reducible rfl
                  rotate_left
                  · simp only [Act.put, List.setIfInBounds_toArray, List.set_cons_zero, List.set_cons_succ, i64_w, i32_w]
                    rfl
                  refine pure_ (i := 19) (N := some 105) (v := ?_) (a' := ?_) #[true, true, true, true, true, true, true, true, true, true, true, true, true, true, true, true, false, true, true, true, false, false, false, false, false, false, false, false] rfl rfl (any_of HT_.out (by kernel_rfl)) (fun _ _ _ h => h) (Or.inl ⟨by rfl, ?_⟩) ?_ ?_
                  rotate_left
                  · intro w'
                    go_simp
                    with_reducible rfl
                  rotate_left
                  · simp only [Act.put, List.setIfInBounds_toArray, List.set_cons_zero, List.set_cons_succ, i64_w, i32_w]
                    rfl
                  refine pure_ (i := 20) (N := some 106) (v := ?_) (a' := ?_) #[true, true, true, true, true, true, true, true, true, true, true, true, true, true, true, true, false, true, true, true, true, false, false, false, false, false, false, false] rfl rfl (any_of HT_.out (by kernel_rfl)) (fun _ _ _ h => h) (Or.inl ⟨by rfl, ?_⟩) ?_ ?_
                  rotate_left
                  · intro w'
                    go_simp
                    with_reducible rfl
                  rotate_left
                  · simp only [Act.put, List.setIfInBounds_toArray, List.set_cons_zero, List.set_cons_succ, i64_w, i32_w]
                    rfl
                  refine pure_ (i := 21) (N := some 107) (v := ?_) (a' := ?_) #[true, true, true, true, true, true, true, true, true, true, true, true, true, true, true, true, false, true, true, true, true, true, false, false, false, false, false, false] rfl rfl (any_of HT_.out (by kernel_rfl)) (fun _ _ _ h => h) (Or.inl ⟨by rfl, ?_⟩) ?_ ?_
                  rotate_left
                  · intro w'
                    go_simp
                    with_reducible rfl
                  rotate_left
                  · simp only [Act.put, List.setIfInBounds_toArray, List.set_cons_zero, List.set_cons_succ, i64_w, i32_w]
                    rfl
                  refine pure_ (i := 22) (N := some 108) (v := ?_) (a' := ?_) #[true, true, true, true, true, true, true, true, true, true, true, true, true, true, true, true, false, true, true, true, true, true, true, false, false, false, false, false] rfl rfl (any_of HT_.out (by kernel_rfl)) (fun _ _ _ h => h) (Or.inl ⟨by rfl, ?_⟩) ?_ ?_
                  rotate_left
                  · intro w'
                    go_simp
                    with_reducible rfl
                  rotate_left
                  · simp only [Act.put, List.setIfInBounds_toArray, List.set_cons_zero, List.set_cons_succ, i64_w, i32_w]
                    rfl
                  refine pure_ (i := 23) (N := some 109) (v := ?_) (a' := ?_) #[true, true, true, true, true, true, true, true, true, true, true, true, true, true, true, true, false, true, true, true, true, true, true, true, false, false, false, false] rfl rfl (any_of HT_.out (by kernel_rfl)) (fun _ _ _ h => h) (Or.inl ⟨by rfl, ?_⟩) ?_ ?_
                  rotate_left
                  · intro w'
                    go_simp
                    with_reducible rfl
                  rotate_left
                  · simp only [Act.put, List.setIfInBounds_toArray, List.set_cons_zero, List.set_cons_succ, i64_w, i32_w]
                    rfl
                  refine take_ (i := 24) (N := some 110) (v := ?_) (a' := ?_) #[true, true, true, true, true, true, true, true, true, true, true, true, true, true, true, true, false, true, true, true, true, true, true, true, true, false, false, false] rfl rfl (take_ofW HT_.out HW_.out (by kernel_rfl)) (fun _ _ _ h => h) (Or.inl ⟨by rfl, ?_⟩) hHeld ?_ ?_
                  rotate_left
                  · intro w' s0
                    go_simp
                    with_reducible rfl
                  rotate_left
                  · simp only [Act.put, List.setIfInBounds_toArray, List.set_cons_zero, List.set_cons_succ, i64_w, i32_w]
                    rfl
                  refine one_ (i := 16) (N := some 102) #[true, true, true, true, true, true, true, true, true, true, true, true, true, true, true, true, true, true, true, true, true, true, true, true, true, false, false, false] rfl rfl (one_of HT_.out (by kernel_rfl)) (by decide) (fun K hK => ?_)
                  refine goes_ Tryd.func15 (by kernel_rfl) rfl #[.pointer (some ⟨g, 0, none⟩), .int .i64 z] (by rfl) rfl rfl (by (try simp only [List.map_toArray, List.map_cons, List.map_nil]); first | done | rfl) ?_
                  refine (HTX.out w6 HB6.out).mono ?_
                  rintro e w7 ⟨rfl, hb7⟩
                  have HB7 := Aside0.mk (below_step HB6.out hb7)
                  clear hb7
                  refine ⟨_, rfl, ?_⟩
                  refine hK.out _ _ (HGL.out w7 HB7.out) (fun hHeld => ?_)
                  clear hK K
                  refine one_ (i := 25) (N := some 111) #[true, true, true, true, true, true, true, true, true, true, true, true, true, true, true, true, true, true, true, true, true, true, true, true, true, true, false, false] rfl rfl (one_of HT_.out (by kernel_rfl)) (by decide) (fun K hK => ?_)
                  refine goes_ Tryd.func16 (by kernel_rfl) rfl #[.slice Ar ll.length cr] (by rfl) rfl rfl (by (try simp only [List.map_toArray, List.map_cons, List.map_nil]); first | done | rfl) ?_
                  refine (HCT.out w7 HB7.out).mono ?_
                  rintro e w8 ⟨rfl, hb8⟩
                  have HB8 := Aside0.mk (below_step HB7.out hb8)
                  clear hb8
                  refine ⟨_, rfl, ?_⟩
                  refine hK.out _ _ (HGL.out w8 HB8.out) (fun hHeld => ?_)
                  clear hK K
                  refine pure_ (i := 26) (N := some 112) (v := ?_) (a' := ?_) #[true, true, true, true, true, true, true, true, true, true, true, true, true, true, true, true, true, true, true, true, true, true, true, true, true, true, true, false] rfl rfl (any_of HT_.out (by kernel_rfl)) (fun _ _ _ h => h) (Or.inl ⟨by rfl, ?_⟩) ?_ ?_
                  rotate_left
                  · intro w'
                    go_simp
                    with_reducible rfl
                  rotate_left
                  · simp only [Act.put, List.setIfInBounds_toArray, List.set_cons_zero, List.set_cons_succ, i64_w, i32_w]
                    rfl
                  refine pure_ (i := 27) (N := some 113) (v := ?_) (a' := ?_) #[true, true, true, true, true, true, true, true, true, true, true, true, true, true, true, true, true, true, true, true, true, true, true, true, true, true, true, true] rfl rfl (any_of HT_.out (by kernel_rfl)) (fun _ _ _ h => h) (Or.inl ⟨by rfl, ?_⟩) ?_ ?_
                  rotate_left
                  · intro w'
                    go_simp
                    with_reducible rfl
                  rotate_left
                  · simp only [Act.put, List.setIfInBounds_toArray, List.set_cons_zero, List.set_cons_succ, i64_w, i32_w]
                    rfl
                  refine done_ (done_of HT_.out (by kernel_rfl)) ?_
                  go_wp2
                  go_roundg k1
                  case measure => have := HK.out.2.1; omega
                  case rel =>
                    have hi' := HI.out
                    obtain ⟨x1, x2, x3⟩ := HK.out
                    exact ⟨z + 1, i + 1, by first | rfl | rw [hw3], ⟨And.intro (by omega) (And.intro (by omega) (by omega))⟩, ⟨HBT.out.later HB8.out⟩⟩
                · have hib : decide (z < (ws.length : Int)) = false := decide_eq_false (by omega)
                  have HCL := Aside0.mk (fun (W : World) (hb : Below wr.heap.size wr W) => (HBT.out.later hb).clear)
                  have fin : ∀ (wx : World), Below wr.heap.size wr wx → True := fun _ _ => trivial
                  clear hz hk hil hi fin
                  by_cases ho : zn < 0 ∨ zn ≥ (ws.length : Int)
                  · have HNL := Aside0.mk (fun (W : World) (hb : Below wr.heap.size wr W) => (HBT.out.later hb).noline zn ho)
                    have HNT := Aside0.mk (fun (W : World) (hb : Below wr.heap.size wr W) => (HBT.out.later hb).notext zn ho)
                    have hd : decide (zn < 0) = true ∨ (decide (zn < 0) = false ∧ decide (zn ≥ (ws.length : Int)) = true) := by
                      by_cases h0 : zn < 0
                      · exact .inl (decide_eq_true h0)
                      · exact .inr ⟨decide_eq_false h0, decide_eq_true (by omega)⟩
                    clear ho
                    rcases hd with hd1 | ⟨hd1, hd2⟩
                    · go_wp2_with (first
                        | (go_at_call 14; with_reducible refine HNO.out.mono ?_; rintro e wf ⟨rfl, hbf⟩; have HBF := Aside0.mk (below_step HBE.out hbf); clear hbf)
                        | (go_at_call 14; with_reducible refine (HNL.out wr (Below.refl _ _)).mono ?_; rintro e wa ⟨rfl, hba⟩; have HBA := Aside0.mk hba; clear hba)
                        | (go_at_call 15; with_reducible refine (HNT.out _ HBA.out).mono ?_; rintro e wb ⟨rfl, hbb⟩; have HBB := Aside0.mk (below_step HBA.out hbb); clear hbb)
                        | (go_at_call 17; with_reducible refine (HCL.out _ HBB.out).mono ?_; rintro e wc ⟨rfl, ⟨ring', hs⟩, hbc⟩; have HSC := Aside0.mk hs; have HBC := Aside0.mk hbc; have HL0 := Aside0.mk hs.Len_calls; clear hs hbc)
                        | (go_at_call 11; with_reducible refine HL0.out.mono ?_; rintro e wd ⟨rfl, hbd⟩; have HBD := Aside0.mk (below_step HBC.out hbd); have HSD := Aside0.mk (HSC.out.below hbd); have HLO := Aside0.mk (HSC.out.below hbd).Lost_calls; clear hbd)
                        | (go_at_call 12; with_reducible refine HLO.out.mono ?_; rintro e we ⟨rfl, hbe⟩; rw [← HZL.out]; have HBE := Aside0.mk (below_step HBD.out hbe); have HNO := Aside0.mk ((HSD.out.below hbe).Line_none 0 (.inr (by decide))); clear hbe))
                      go_ret
                      exact ⟨rfl, HBF.out⟩
                    · go_wp2_with (first
                        | (go_at_call 14; with_reducible refine HNO.out.mono ?_; rintro e wf ⟨rfl, hbf⟩; have HBF := Aside0.mk (below_step HBE.out hbf); clear hbf)
                        | (go_at_call 14; with_reducible refine (HNL.out wr (Below.refl _ _)).mono ?_; rintro e wa ⟨rfl, hba⟩; have HBA := Aside0.mk hba; clear hba)
                        | (go_at_call 15; with_reducible refine (HNT.out _ HBA.out).mono ?_; rintro e wb ⟨rfl, hbb⟩; have HBB := Aside0.mk (below_step HBA.out hbb); clear hbb)
                        | (go_at_call 17; with_reducible refine (HCL.out _ HBB.out).mono ?_; rintro e wc ⟨rfl, ⟨ring', hs⟩, hbc⟩; have HSC := Aside0.mk hs; have HBC := Aside0.mk hbc; have HL0 := Aside0.mk hs.Len_calls; clear hs hbc)
                        | (go_at_call 11; with_reducible refine HL0.out.mono ?_; rintro e wd ⟨rfl, hbd⟩; have HBD := Aside0.mk (below_step HBC.out hbd); have HSD := Aside0.mk (HSC.out.below hbd); have HLO := Aside0.mk (HSC.out.below hbd).Lost_calls; clear hbd)
                        | (go_at_call 12; with_reducible refine HLO.out.mono ?_; rintro e we ⟨rfl, hbe⟩; rw [← HZL.out]; have HBE := Aside0.mk (below_step HBD.out hbe); have HNO := Aside0.mk ((HSD.out.below hbe).Line_none 0 (.inr (by decide))); clear hbe))
                      go_ret
                      exact ⟨rfl, HBF.out⟩
                  · have hd1 : decide (zn < 0) = false := decide_eq_false (by omega)
                    have hd2 : decide (zn ≥ (ws.length : Int)) = false := decide_eq_false (by omega)
                    clear ho
                    go_wp2_with (first
                      | (go_at_call 14; with_reducible refine HNO.out.mono ?_; rintro e wf ⟨rfl, hbf⟩; have HBF := Aside0.mk (below_step HBE.out hbf); clear hbf)
                      | (go_at_call 17; with_reducible refine (HCL.out _ (Below.refl _ _)).mono ?_; rintro e wc ⟨rfl, ⟨ring', hs⟩, hbc⟩; have HSC := Aside0.mk hs; have HBC := Aside0.mk hbc; have HL0 := Aside0.mk hs.Len_calls; clear hs hbc)
                      | (go_at_call 11; with_reducible refine HL0.out.mono ?_; rintro e wd ⟨rfl, hbd⟩; have HBD := Aside0.mk (below_step HBC.out hbd); have HSD := Aside0.mk (HSC.out.below hbd); have HLO := Aside0.mk (HSC.out.below hbd).Lost_calls; clear hbd)
                      | (go_at_call 12; with_reducible refine HLO.out.mono ?_; rintro e we ⟨rfl, hbe⟩; rw [← HZL.out]; have HBE := Aside0.mk (below_step HBD.out hbe); have HNO := Aside0.mk ((HSD.out.below hbe).Line_none 0 (.inr (by decide))); clear hbe))
                    go_ret
                    exact ⟨rfl, HBF.out⟩

end Go.Proofs.YtgnbhomdkchcfaaDoor.PF15P
