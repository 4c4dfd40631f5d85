/- The law CodecBack, its own walk. No condition. -/
import Derived.Test.YthcpfkkddfgamaaCbR
namespace Go.Proofs.Ythcpfkkddfgamaa.Cod
open Go.AnyFacts Go.Proofs.Ythcpfkkddfgamaa.Sha Go.RowKit Go.Proofs.YthcpfkkddfgamaaW.Hand Go.Proofs.YthcpfkkddfgamaaW.PrintWords Go.Proofs.YthcpfkkddfgamaaW.PrintLast Go.Proofs.YthcpfkkddfgamaaW.PrintMore Go.Proofs.Ythcpfkkddfgamaa.PF06C Go.Proofs.Ythcpfkkddfgamaa.Base Go.Proofs.Ythcpfkkddfgamaa.LF06C
attribute [local go_sem] max2_int min2_int max_two min_two max_three min_three max_four min_four
set_option linter.unusedVariables false
set_option linter.unusedSimpArgs false
set_option maxHeartbeats 8000000 in
set_option maxRecDepth 100000 in
theorem few_calls {w : World} (A0 : Option Addr) (c0 : Nat) (l : List It) (hC : Kd.C kIt w A0 l.length l) : Calls Try.prog 62 #[.slice A0 l.length c0] w fun e w' => ∃ b, e = .returned (.bool b) ∧ (b = true ↔ (l.length ≤ 30 ∧ ∀ i (hi : i < l.length), l[i].2.2.1.length ≤ 300)) ∧ Below w.heap.size w w' := by
  have HC := Aside0.mk hC
  clear hC
  by_cases h30 : l.length > 30
  · have hd : decide ((l.length : Int) > 30) = true := decide_eq_true (by omega)
    have H30 := Aside0.mk h30
    clear h30
    go_enter Try.func62, Try.ntmps62
    go_wp2
    go_ret
    exact ⟨false, rfl, ⟨fun h => (by cases h), fun h => absurd h.1 (by have := H30.out; omega)⟩, Below.refl _ _⟩
  · have hd : decide ((l.length : Int) > 30) = false := decide_eq_false (by omega)
    have HL := Aside0.mk (show l.length ≤ 30 by omega)
    clear h30
    go_enter Try.func62, Try.ntmps62
    go_wp2
    clear hd
    go_loopg [3] (l.length + 1) (fun kq v3 wr => ∃ (z : Int) (i : Nat), v3 = .int .i64 z ∧ Aside0 (z = (i : Int) ∧ i + kq = l.length + 1 ∧ i ≤ l.length) ∧ Aside0 (∀ j (hj : j < l.length), j < i → l[j].2.2.1.length ≤ 300) ∧ Aside0 (Below w.heap.size w wr))
    case atStart => exact ⟨0, 0, rfl, ⟨rfl, by omega, by omega⟩, ⟨fun j hj h => absurd h (by omega)⟩, ⟨Below.refl _ _⟩⟩
    case round =>
      obtain ⟨z, i, rfl, HK, HP, HB⟩ := hrel
      obtain ⟨hz, hk, hil⟩ := HK.out
      cases gk with
      | zero => omega
      | succ k1 =>
        by_cases hi : i < l.length
        · have hib : decide (z < (l.length : Int)) = true := decide_eq_true (by omega)
          obtain ⟨ad, e1, B, c, hc1, hC1, hl1, hcell⟩ := at_It HC.out i hi
          cases e1
          have hx : wr.cell? ⟨(ad.add (z.toNat * 35)).block, (ad.add (z.toNat * 35)).off + 2, none⟩ = some (.slice B l[i].2.2.1.length c) := cell_below HB.out (by rw [show z.toNat = i by omega]; have h := hcell 2 _ rfl; rw [← add_add] at h; exact h)
          have p1 := eq_true (show (0 : Int) ≤ z by omega)
          have q1 := eq_true (show z < (l.length : Int) by omega)
          have hw1 : wrap64 (z + 1) = ((i + 1 : Nat) : Int) := by have := HL.out; rw [w64 (by omega) (by omega)]; omega
          have HW := Aside0.mk hw1
          have HI := Aside0.mk hi
          clear hc1 hC1 hcell hl1 hw1 hz hk hil
          by_cases h300 : l[i].2.2.1.length > 300
          · have hd : decide ((l[i].2.2.1.length : Int) > 300) = true := decide_eq_true (by omega)
            have H300 := Aside0.mk (show ∀ hj : i < l.length, l[i].2.2.1.length > 300 from fun _ => h300)
            clear h300
            generalize l[i].2.2.1.length = m at hx hd
            clear hi
            go_wp2
            go_ret
            exact ⟨false, rfl, ⟨fun h => (by cases h), fun h => absurd (h.2 i HI.out) (by have := H300.out HI.out; omega)⟩, HB.out⟩
          · have hd : decide ((l[i].2.2.1.length : Int) > 300) = false := decide_eq_false (by omega)
            have H300 := Aside0.mk (show ∀ hj : i < l.length, l[i].2.2.1.length ≤ 300 from fun _ => by omega)
            clear h300
            generalize l[i].2.2.1.length = m at hx hd
            clear hi
            go_wp2
            go_roundg k1
            case measure => have := HK.out.2.1; omega
            case rel =>
              refine ⟨wrap64 (z + 1), i + 1, rfl, ⟨HW.out, by have := HK.out.2.1; omega, by have := HI.out; omega⟩, ⟨fun j hj h => ?_⟩, ⟨by first | exact HB.out | exact pw_below_drewN HB.out _ | exact below_drew HB.out⟩⟩
              by_cases e : j = i
              · subst e
                exact H300.out hj
              · exact HP.out j hj (by omega)
        · have hib : decide (z < (l.length : Int)) = false := decide_eq_false (by omega)
          have HE := Aside0.mk (show i = l.length by omega)
          clear hz hk hil hi
          go_wp2
          go_ret
          exact ⟨true, rfl, ⟨fun _ => ⟨HL.out, fun j hj => HP.out j hj (by have := HE.out; omega)⟩, fun _ => rfl⟩, HB.out⟩
def Few (l : List It) : Prop := l.length ≤ 30 ∧ ∀ i (hi : i < l.length), l[i].2.2.1.length ≤ 300
theorem few_yes {w : World} (A0 : Option Addr) (c0 : Nat) (l : List It) (hC : Kd.C kIt w A0 l.length l) (h : Few l) : Calls Try.prog 62 #[.slice A0 l.length c0] w fun e w' => e = .returned (.bool true) ∧ Below w.heap.size w w' := by
  refine (few_calls A0 c0 l hC).mono ?_
  rintro e w' ⟨b, rfl, h1, h2⟩
  rw [h1.2 h]
  exact ⟨rfl, h2⟩
theorem few_no {w : World} (A0 : Option Addr) (c0 : Nat) (l : List It) (hC : Kd.C kIt w A0 l.length l) (h : ¬ Few l) : Calls Try.prog 62 #[.slice A0 l.length c0] w fun e w' => e = .returned (.bool false) ∧ Below w.heap.size w w' := by
  refine (few_calls A0 c0 l hC).mono ?_
  rintro e w' ⟨b, rfl, h1, h2⟩
  cases b with
  | false => exact ⟨rfl, h2⟩
  | true => exact absurd (h1.1 rfl) h
theorem newR_f (l : List Int) (h : l.length ≤ 1000000) : codec_NewReader.f l = some (l, 0) := by
  unfold codec_NewReader.f
  rw [Option.bind_some, if_pos (by simp; omega)]
  rfl
theorem RSt.new' {w : World} {A : Option Addr} {c : Nat} {l : List Int} (hC : Kd.C (Kd.int .u8) w A l.length l) (hc : l.length ≤ c) (hl : l.length ≤ 1000000) {w0 : World} (hb : Below w0.heap.size w0 w) : Calls Try.prog 47 #[.slice A l.length c] w fun en w' => ∃ g, en = .returned (.pointer (some ⟨g, 0, none⟩)) ∧ RSt w0 g l 0 w' := by
  refine (codec_NewReader.calls A c l l 0 w hC hc (newR_f l hl)).mono ?_
  rintro en w' ⟨v, g, ⟨rfl, hR, hbk, hg, hB⟩⟩
  exact ⟨g, rfl, RSt.start hb hR hbk hg hB⟩

theorem itL_len (x : It) (hB : x.2.2.1.length ≤ 300) (hK : x.2.2.2.length = 32) : (itL x).length ≤ 400 := by
  have h1 := numF_len 7 x.2.1
  have h2 := numF_len 7 (zig x.2.1)
  have h3 := numF_len 7 (x.2.2.1.length : Int)
  unfold itL
  split
  · simp
  · split
    · split
      · simp
      · omega
    · split
      · split
        · simp
        · omega
      · split
        · rw [List.length_append]; omega
        · split
          · omega
          · split <;> simp
theorem numF_bytes : ∀ (f : Nat) (n : Int), 0 ≤ n → n < 2 ^ (7 * (f + 1)) → Bytes (numF f n) := by
  intro f
  induction f with
  | zero =>
    intro n h0 h1 x hx
    have h1' : n < 128 := by simpa using h1
    have : x = n := by simpa [numF] using hx
    omega
  | succ f ih =>
    intro n h0 h1
    have hp1 : (2 : Int) ^ (7 * (f + 1 + 1)) = 2 ^ (7 * (f + 1)) * 128 := by rw [show 7 * (f + 1 + 1) = 7 * (f + 1) + 7 by omega, Int.pow_add]; rfl
    rw [numF]
    by_cases c : n < 128
    · rw [if_pos c]
      intro x hx
      have : x = n := by simpa using hx
      omega
    · rw [if_neg c]
      intro x hx
      rcases List.mem_cons.1 hx with hx | hx
      · omega
      · exact ih (n / 128) (by omega) (by omega) x hx
theorem bytes_app {a b : List Int} (ha : Bytes a) (hb : Bytes b) : Bytes (a ++ b) := fun x hx => (List.mem_append.1 hx).elim (ha x) (hb x)
theorem itL_bytes (x : It) (hw : WFIt x) (hB : x.2.2.1.length ≤ 300) : Bytes (itL x) := by
  obtain ⟨_, _, ⟨_, h3⟩, h4, h5⟩ := hw
  have hB0 : Bytes x.2.2.1 := bytes_of h3
  have hK0 : Bytes x.2.2.2 := bytes_of h5
  unfold itL
  split
  · intro y hy
    have : y = x.2.1 % 256 := by simpa using hy
    omega
  · split
    · split
      · intro y hy; simp at hy
      · exact numF_bytes 7 _ (by omega) (by omega)
    · split
      · split
        · intro y hy; simp at hy
        · have := zig_range x.2.1 (by omega) (by omega)
          exact numF_bytes 7 _ this.1 this.2
      · split
        · exact bytes_app (numF_bytes 7 _ (by omega) (by omega)) hB0
        · split
          · exact hK0
          · split <;> (intro y hy; simp at hy; omega)
theorem take_flat {α : Type} (f : α → List Int) (l : List α) (i : Nat) (hi : i < l.length) : (l.take (i + 1)).flatMap f = (l.take i).flatMap f ++ f l[i] := by
  rw [List.take_succ_eq_append_getElem hi, List.flatMap_append]
  simp
theorem drop_flat {α : Type} (f : α → List Int) (l : List α) (i : Nat) (hi : i < l.length) : (l.drop i).flatMap f = f l[i] ++ (l.drop (i + 1)).flatMap f := by
  rw [List.drop_eq_getElem_cons hi, List.flatMap_cons]
theorem flat_bytes {l : List It} (h : ∀ x ∈ l, Bytes (itL x)) : Bytes (l.flatMap itL) := by
  intro y hy
  obtain ⟨x, hx, h2⟩ := List.mem_flatMap.1 hy
  exact h x hx y h2
theorem flat_len {l : List It} (h : ∀ x ∈ l, (itL x).length ≤ 400) : (l.flatMap itL).length ≤ 400 * l.length := by
  induction l with
  | nil => simp
  | cons x t ih =>
    rw [List.flatMap_cons, List.length_append, List.length_cons]
    have := h x (by simp)
    have := ih (fun y hy => h y (by simp [hy]))
    omega
theorem itE_or (x : It) : itE x = 0 ∨ itE x = 1 := by
  unfold itE
  split
  · exact .inr rfl
  · exact .inl rfl
theorem itL_nil (x : It) (h : itE x = 1) : itL x = [] := by
  unfold itE at h
  split at h
  · rename_i hc
    unfold itL
    rcases hc with ⟨h1, h2⟩ | ⟨h1, h2⟩
    · rw [if_neg (by omega), if_pos h1, if_pos h2]
    · rw [if_neg (by omega), if_neg (by omega), if_pos h1, if_pos h2]
  · cases h
/-- A row beside a Writer's. -/
structure Oth (w : World) (g : Nat) (v u : Value) (X : List Int) (wr : World) : Prop where
  row : Kd.R (Kd.int .u8) 5 wr w.heap.size (fun k => k ≠ g ∧ some k ≠ v.ownBlock) u X
section
variable {w wr w' : World} {g : Nat} {v v' u : Value} {l X : List Int} {e : Int}
theorem Oth.later (o : Oth w g v u X wr) (hb : Below wr.heap.size wr w') : Oth w g v u X w' := ⟨Kd.R_below o.row hb⟩
theorem Oth.step (o : Oth w g v u X wr) (h : WStp g v v' wr w') : Oth w g v' u X w' := by
  have h1 := Kd.R_kept (Kd.R_bound o.row) h.kept (fun k hk hs => by
    rcases hs with hs | hs
    · exact hk.1.2 hs
    · exact hk.1.1 hs)
  refine ⟨Kd.R_mono h1 (fun k hk => ⟨hk.1.1, fun e => ?_⟩)⟩
  rcases h.own k e.symm with h2 | h2
  · exact hk.1.2 h2
  · have := hk.2.2.1
    omega
theorem Oth.reads (o : Oth w g v u X wr) : ∃ A c, u = .slice A X.length c ∧ X.length ≤ c ∧ Kd.C (Kd.int .u8) wr A X.length X := Kd.R_reads o.row
/-- Both, behind an append to the other row. -/
theorem WSt.grown (s : WSt w g v l e wr) (o : Oth w g v u X wr) (hg : wr.grownBy w' u.ownBlock) (hb : Below w.heap.size w w') : WSt w g v l e w' := by
  refine ⟨Kd.R_grown2 s.row rfl hg (fun k hk hv => ?_), ?_, hb, s.new⟩
  · exact (o.row.1 k hk).2 hv
  · exact (hg.block g (blk_lt s.blk) (fun h => (o.row.1 g h.symm).1 rfl)).trans s.blk
theorem WSt.fresh (s : WSt w g v l e wr) : ∀ k, wr.heap.size ≤ k → k ≠ g ∧ some k ≠ v.ownBlock := fun k hk => by
  have := blk_lt s.blk
  refine ⟨by omega, fun h => ?_⟩
  have := (s.base k h).2
  omega
/-- The bytes of a Writer. -/
theorem WSt.bytes (s : WSt w g v l e wr) {r1 : List Int} {r2 : Int} (h : codec_Writer_Bytes.f l e = some (r1, r2, l, e)) : Calls Try.prog 52 #[.pointer (some ⟨g, 0, none⟩)] wr fun en w' => ∃ u v', en = .returned (.tuple #[u, .int .i64 r2]) ∧ WSt w g v' l e w' ∧ WStp g v v' wr w' ∧ Oth w g v' u r1 w' := by
  refine (codec_Writer_Bytes.calls g (fun k => some k = v.ownBlock) v l e r1 r2 l e w wr s.blk s.new s.below s.tight h).mono ?_
  rintro en w' ⟨v0, v2, ⟨rfl, hR0, hR2, hb, hB, hk⟩⟩
  obtain ⟨h1, h2⟩ := s.next (Kd.R_mono hR2 (fun k hk => hk.1)) hb hB hk
  refine ⟨v0, v2, rfl, h1, h2, ⟨Kd.R_mono hR0 (fun k hk => ⟨?_, hk.2⟩)⟩⟩
  rcases hk.1 with h3 | h3
  · exact s.row.1 k h3.symm
  · have := blk_lt s.blk
    omega
theorem WSt.made {g0 : Nat} {v0 : Value} {wx : World} (hbx : Below w.heap.size w wx) (hR : Kd.R (Kd.int .u8) 5 wr wx.heap.size (fun _ => True) v0 []) (hb : wr.heap[g0]? = some (.cells #[v0, .int .i64 0] 123 (0, 0))) (hg : wx.heap.size ≤ g0) (hB : Below wx.heap.size wx wr) : WSt w g0 v0 [] 0 wr := by
  refine ⟨Kd.R_mono (Kd.R_lower (Kd.R_types hR hb (by decide)) hbx.size) (fun k hk => hk.2), hb, below_step hbx hB, Nat.le_trans hbx.size hg⟩
end
theorem bytes_err (l : List Int) (e : Int) (he : e ≠ 0) : codec_Writer_Bytes.f l e = some ([], e, l, e) := by
  unfold codec_Writer_Bytes.f
  rw [if_neg he]
/-- What stands when i items are written. -/
structure Wri (w : World) (g : Nat) (l : List It) (i : Nat) (vw u : Value) (X : List Int) (bd : Int) (wr : World) : Prop where
  st : WSt w g vw X bd wr
  want : Oth w g vw u X wr
  len : X.length ≤ 400 * i
  code : bd = 0 ∨ bd = 1
  good : bd = 0 → X = (l.take i).flatMap itL ∧ ∀ j (hj : j < l.length), j < i → itE l[j] = 0
theorem item_at {w : World} {ad : Addr} {i : Nat} {x : It} {B : Option Addr} {c : Nat} {z : Int} (hz : z = (i : Int)) (h : ∀ (j : Nat) (v : Value), (itC x B c)[j]? = some v → w.cell? (ad.add (i * 35 + j)) = some v) : ∀ W, Below w.heap.size w W → ∀ (j : Nat) (v : Value), (itC x B c)[j]? = some v → W.cell? ((ad.add (z.toNat * 35)).add j) = some v := by
  intro W hb j v hv
  have := h j v hv
  rw [add_add, show z.toNat = i by omega]
  exact (hb.cell (World.block_lt_of_cell? w _ this)).trans this

end Go.Proofs.Ythcpfkkddfgamaa.Cod
